/- entry.Constant. -/
import Derived.Test.YtfffihcadhfplaaGreatDoorPEnc
import Derived.Test.YtfffihcadhfplaaGreatDoorPIterV
import Derived.Test.YtfffihcadhfplaaGreatDoorPShw
namespace Go.Proofs.YtfffihcadhfplaaGreatDoor
set_option maxRecDepth 100000
set_option maxHeartbeats 8000000
open Go.RowKit
attribute [local go_sem high] eq_val
def markB (l:List UInt8):Bool:=decide ((meanS l).2.2≠0) || ((meanS l).1.f || !decide ((meanS l).1.v=(3,0,l)))
def markS (k:Nat) (l:List UInt8):List UInt8:=if k=3∧markB l=true then 39::l else l
noncomputable def constC (k:Nat) (n:Int) (t:List UInt8):List UInt8×Int :=
 if valE k n t≠0∨(k=4∧n=6) then ([],2)
 else if 256<(markS k (showV k n t)).length then ([],5) else (markS k (showV k n t),0)
theorem cst_bad {k:Nat} {n:Int} {t:List UInt8} (h:valE k n t≠0∨(k=4∧n=6)):constC k n t=([],2):=if_pos h
theorem cst_long {k:Nat} {n:Int} {t:List UInt8} (h:¬ (valE k n t≠0∨(k=4∧n=6))) (h2:256<(markS k (showV k n t)).length):constC k n t=([],5):=by unfold constC; rw [if_neg h,if_pos h2]
theorem cst_ok {k:Nat} {n:Int} {t:List UInt8} (h:¬ (valE k n t≠0∨(k=4∧n=6))) (h2:¬ 256<(markS k (showV k n t)).length):constC k n t=(markS k (showV k n t),0):=by unfold constC; rw [if_neg h,if_neg h2]
theorem mrkB_of {l:List UInt8} {m:Mn} {a e:Int} (h:meanS l=(m,a,e)):markB l=(decide (e≠0) || (m.f || !decide (m.v=(3,0,l)))):=by unfold markB; rw [h]
theorem cst_1 (k:Nat) (n:Int) (s:ByteArray) (E:Int) (hv:Keep (valE k n s.data.toList=E)) (hs:Hid (s.size≤4611686018427387904)) (hE:(E != 0)=true) (w:World) :
  Calls Tryz.prog 9 #[.agg #[.int .u8 (k:Nat),.int .i64 n,.string s]] w fun e w'=>e=.returned (.tuple #[.string ⟨#[]⟩,.int .i64 2])∧Below w.heap.size w w':=by
 have H1:=Lib.hid ((Ok.start w).alloc w.heap.size 23 [.int .u8 (k:Nat),.int .i64 n,.string s] rfl)
 go_enter Tryz.func9,Tryz.ntmps9
 go_upto_region 1 with fail
 generalize (w.alloc (.cells #[.int .u8 (k:Nat),.int .i64 n,.string s] 23))=W2 at H1 ⊢
 refine wp_region_held_drew (S:=fun W=>Ok w [kBlk (w.heap.size) 23 [.int .u8 (k:Nat),.int .i64 n,.string s]] W) (by kernel_rfl) H1.out.drew (fun hHeld => ?_)
 refine wt3 (i:=0) rfl (by assumption) ?_
 refine wal (i:=1) rfl (fun K hK => ?_)
 go_simp
 refine (val_Check k n s hs.out _).mono ?_
 rintro e w4 ⟨rfl,hb5⟩
 rw [hv.out]
 go_wp2_with fail
 refine hK.out _ _ (hHeld.below hb5) (fun hHeld => ?_)
 clear hK K
 try simp only [Act.put,wp1,wp2,wp3,wp4,wp5,wp6]
 refine wt3 (i:=2) rfl (by assumption) ?_
 refine wt3 (i:=3) rfl (by assumption) ?_
 refine wsk (i:=4) rfl (by assumption) ?_
 refine wsk (i:=5) rfl (by assumption) ?_
 refine wsk (i:=6) rfl (by assumption) ?_
 refine wt3 (i:=7) rfl (by assumption) ?_
 refine wpAnyH_done (by kernel_rfl) ?_ _
 clear H1
 have H6:=Lib.hid hHeld
 clear hHeld
 have F7:=H6.out.sees
 simp only [sees,kBlk,cellsAt,Nat.reduceAdd] at F7
 obtain ⟨⟨z0,c00,c01,c02,-⟩,-⟩:=F7
 go_wp2_with fail
 exact bodyPost_ret (v:=.tuple #[.string ⟨#[]⟩,.int .i64 2]) (by simp [results,Tryz.results9,go_sem]) rfl ⟨rfl,H6.out.bel⟩
theorem cst_2 (hv:Keep (valE 4 6 []=0)) (w:World) :
  Calls Tryz.prog 9 #[.agg #[.int .u8 4,.int .i64 6,.string ⟨#[]⟩]] w fun e w'=>e=.returned (.tuple #[.string ⟨#[]⟩,.int .i64 2])∧Below w.heap.size w w':=by
 have hs:=Lib.hid (show (⟨#[]⟩:ByteArray).size≤4611686018427387904 by decide)
 have H1:=Lib.hid ((Ok.start w).alloc w.heap.size 23 [.int .u8 4,.int .i64 6,.string ⟨#[]⟩] rfl)
 go_enter Tryz.func9,Tryz.ntmps9
 go_upto_region 1 with fail
 generalize (w.alloc (.cells #[.int .u8 4,.int .i64 6,.string ⟨#[]⟩] 23))=W2 at H1 ⊢
 refine wp_region_held_drew (S:=fun W=>Ok w [kBlk (w.heap.size) 23 [.int .u8 4,.int .i64 6,.string ⟨#[]⟩]] W) (by kernel_rfl) H1.out.drew (fun hHeld => ?_)
 refine wt3 (i:=0) rfl (by assumption) ?_
 refine wal (i:=1) rfl (fun K hK => ?_)
 go_simp
 refine (val_Check 4 6 ⟨#[]⟩ hs.out _).mono ?_
 rintro e w4 ⟨rfl,hb5⟩
 rw [(show valE 4 6 (⟨#[]⟩:ByteArray).data.toList=0 from hv.out)]
 go_wp2_with fail
 refine hK.out _ _ (hHeld.below hb5) (fun hHeld => ?_)
 clear hK K
 try simp only [Act.put,wp1,wp2,wp3,wp4,wp5,wp6]
 refine wt3 (i:=2) rfl (by assumption) ?_
 refine wt3 (i:=3) rfl (by assumption) ?_
 refine wt3 (i:=4) rfl (by assumption) ?_
 refine wal (i:=5) rfl (fun K hK => ?_)
 go_simp
 refine (fail_code 6 (by decide) (by decide) _).mono ?_
 rintro e w6 ⟨rfl,hb7⟩
 go_wp2_with fail
 refine hK.out _ _ (hHeld.below hb7) (fun hHeld => ?_)
 clear hK K
 try simp only [Act.put,wp1,wp2,wp3,wp4,wp5,wp6]
 refine wt3 (i:=6) rfl (by assumption) ?_
 refine wt3 (i:=7) rfl (by assumption) ?_
 refine wpAnyH_done (by kernel_rfl) ?_ _
 clear H1
 have H8:=Lib.hid hHeld
 clear hHeld
 have F9:=H8.out.sees
 simp only [sees,kBlk,cellsAt,Nat.reduceAdd] at F9
 obtain ⟨⟨z0,c00,c01,c02,-⟩,-⟩:=F9
 go_wp2_with fail
 exact bodyPost_ret (v:=.tuple #[.string ⟨#[]⟩,.int .i64 2]) (by simp [results,Tryz.results9,go_sem]) rfl ⟨rfl,H8.out.bel⟩
theorem cst_3l (w:World) (k:Nat) (n:Int) (s:ByteArray) (hv:Keep (valE k n s.data.toList=0)) (hs:Hid (s.size≤4611686018427387904)) (hq:eq3 k n 4 6 s.toList []=false) (hk:((k:Int) == 3)=false) (S:ByteArray) (HSH:Keep (∀ w,Words w→Calls Tryz.prog 15 #[.agg #[.int .u8 (k:Nat),.int .i64 n,.string s]] w fun e w'=>e=.returned (.string S)∧Below w.heap.size w w')) (hw:Keep (Words w)) (hl:(S.size:Int)>256) :
  Calls Tryz.prog 9 #[.agg #[.int .u8 (k:Nat),.int .i64 n,.string s]] w fun e w'=>e=.returned (.tuple #[.string ⟨#[]⟩,.int .i64 5])∧Below w.heap.size w w':=by
 have H1:=Lib.hid ((Ok.start w).alloc w.heap.size 23 [.int .u8 (k:Nat),.int .i64 n,.string s] rfl)
 go_enter Tryz.func9,Tryz.ntmps9
 go_upto_region 1 with fail
 generalize (w.alloc (.cells #[.int .u8 (k:Nat),.int .i64 n,.string s] 23))=W2 at H1 ⊢
 refine wp_region_held_drew (S:=fun W=>Ok w [kBlk (w.heap.size) 23 [.int .u8 (k:Nat),.int .i64 n,.string s]] W) (by kernel_rfl) H1.out.drew (fun hHeld => ?_)
 refine wt3 (i:=0) rfl (by assumption) ?_
 refine wal (i:=1) rfl (fun K hK => ?_)
 go_simp
 refine (val_Check k n s hs.out _).mono ?_
 rintro e w4 ⟨rfl,hb5⟩
 rw [hv.out]
 go_wp2_with fail
 refine hK.out _ _ (hHeld.below hb5) (fun hHeld => ?_)
 clear hK K
 try simp only [Act.put,wp1,wp2,wp3,wp4,wp5,wp6]
 refine wt3 (i:=2) rfl (by assumption) ?_
 refine wt3 (i:=3) rfl (by assumption) ?_
 refine wt3 (i:=4) rfl (by assumption) ?_
 refine wal (i:=5) rfl (fun K hK => ?_)
 go_simp
 refine (fail_code 6 (by decide) (by decide) _).mono ?_
 rintro e w6 ⟨rfl,hb7⟩
 go_wp2_with fail
 refine hK.out _ _ (hHeld.below hb7) (fun hHeld => ?_)
 clear hK K
 try simp only [Act.put,wp1,wp2,wp3,wp4,wp5,wp6]
 refine wt3 (i:=6) rfl (by assumption) ?_
 refine wt3 (i:=7) rfl (by assumption) ?_
 refine wpAnyH_done (by kernel_rfl) ?_ _
 clear H1
 have H8:=Lib.hid hHeld
 clear hHeld
 have F9:=H8.out.sees
 simp only [sees,kBlk,cellsAt,Nat.reduceAdd] at F9
 obtain ⟨⟨z0,c00,c01,c02,-⟩,-⟩:=F9
 go_wp2_with fail
 refine (HSH.out _ (hw.out.below H8.out.bel)).mono ?_
 rintro e w10 ⟨rfl,hb11⟩
 clear z0 c00 c01 c02
 have H12:=Lib.hid (H8.out.below hb11)
 clear hb11 H8
 have F13:=H12.out.sees
 simp only [sees,kBlk,cellsAt,Nat.reduceAdd] at F13
 obtain ⟨⟨z0,c00,c01,c02,-⟩,-⟩:=F13
 go_wp2_with fail
 exact bodyPost_ret (v:=.tuple #[.string ⟨#[]⟩,.int .i64 5]) (by simp [results,Tryz.results9,go_sem]) rfl ⟨rfl,H12.out.bel⟩
theorem cst_3s (w:World) (k:Nat) (n:Int) (s:ByteArray) (hv:Keep (valE k n s.data.toList=0)) (hs:Hid (s.size≤4611686018427387904)) (hq:eq3 k n 4 6 s.toList []=false) (hk:((k:Int) == 3)=false) (S:ByteArray) (HSH:Keep (∀ w,Words w→Calls Tryz.prog 15 #[.agg #[.int .u8 (k:Nat),.int .i64 n,.string s]] w fun e w'=>e=.returned (.string S)∧Below w.heap.size w w')) (hw:Keep (Words w)) (hl:¬ (S.size:Int)>256) :
  Calls Tryz.prog 9 #[.agg #[.int .u8 (k:Nat),.int .i64 n,.string s]] w fun e w'=>e=.returned (.tuple #[.string S,.int .i64 0])∧Below w.heap.size w w':=by
 have H1:=Lib.hid ((Ok.start w).alloc w.heap.size 23 [.int .u8 (k:Nat),.int .i64 n,.string s] rfl)
 go_enter Tryz.func9,Tryz.ntmps9
 go_upto_region 1 with fail
 generalize (w.alloc (.cells #[.int .u8 (k:Nat),.int .i64 n,.string s] 23))=W2 at H1 ⊢
 refine wp_region_held_drew (S:=fun W=>Ok w [kBlk (w.heap.size) 23 [.int .u8 (k:Nat),.int .i64 n,.string s]] W) (by kernel_rfl) H1.out.drew (fun hHeld => ?_)
 refine wt3 (i:=0) rfl (by assumption) ?_
 refine wal (i:=1) rfl (fun K hK => ?_)
 go_simp
 refine (val_Check k n s hs.out _).mono ?_
 rintro e w4 ⟨rfl,hb5⟩
 rw [hv.out]
 go_wp2_with fail
 refine hK.out _ _ (hHeld.below hb5) (fun hHeld => ?_)
 clear hK K
 try simp only [Act.put,wp1,wp2,wp3,wp4,wp5,wp6]
 refine wt3 (i:=2) rfl (by assumption) ?_
 refine wt3 (i:=3) rfl (by assumption) ?_
 refine wt3 (i:=4) rfl (by assumption) ?_
 refine wal (i:=5) rfl (fun K hK => ?_)
 go_simp
 refine (fail_code 6 (by decide) (by decide) _).mono ?_
 rintro e w6 ⟨rfl,hb7⟩
 go_wp2_with fail
 refine hK.out _ _ (hHeld.below hb7) (fun hHeld => ?_)
 clear hK K
 try simp only [Act.put,wp1,wp2,wp3,wp4,wp5,wp6]
 refine wt3 (i:=6) rfl (by assumption) ?_
 refine wt3 (i:=7) rfl (by assumption) ?_
 refine wpAnyH_done (by kernel_rfl) ?_ _
 clear H1
 have H8:=Lib.hid hHeld
 clear hHeld
 have F9:=H8.out.sees
 simp only [sees,kBlk,cellsAt,Nat.reduceAdd] at F9
 obtain ⟨⟨z0,c00,c01,c02,-⟩,-⟩:=F9
 go_wp2_with fail
 refine (HSH.out _ (hw.out.below H8.out.bel)).mono ?_
 rintro e w10 ⟨rfl,hb11⟩
 clear z0 c00 c01 c02
 have H12:=Lib.hid (H8.out.below hb11)
 clear hb11 H8
 have F13:=H12.out.sees
 simp only [sees,kBlk,cellsAt,Nat.reduceAdd] at F13
 obtain ⟨⟨z0,c00,c01,c02,-⟩,-⟩:=F13
 go_wp2_with fail
 exact bodyPost_ret (v:=.tuple #[.string S,.int .i64 0]) (by simp [results,Tryz.results9,go_sem]) rfl ⟨rfl,H12.out.bel⟩
theorem cst_4el (w:World) (s:ByteArray) (hv:Keep (valE 3 0 s.data.toList=0)) (hs:Hid (s.size≤4611686018427387904)) (hq:eq3 3 0 4 6 s.toList []=false) (HSH:Keep (∀ w,Words w→Calls Tryz.prog 15 #[.agg #[.int .u8 3,.int .i64 0,.string s]] w fun e w'=>e=.returned (.string s)∧Below w.heap.size w w')) (hw:Keep (Words w)) (f:Bool) (a:Nat) (n1:Int) (t1:List UInt8) (at_ er:Int) (HOF:Keep (∀ w,Words w→Calls Tryz.prog 11 #[.string s] w fun e w'=>∃ ta tn tc,e=.returned (.tuple #[.agg #[.bool f,.int .u8 (a:Nat),.int .i64 n1,.string ⟨t1.toArray⟩,.slice ta tn tc],.int .i64 at_,.int .i64 er])∧Below w.heap.size w w')) (he:(er != 0)=true) (R:ByteArray) (hR:Keep (R=⟨#[39]⟩++s)) (hz:s.size≤256) (hl:(R.size:Int)>256) :
  Calls Tryz.prog 9 #[.agg #[.int .u8 3,.int .i64 0,.string s]] w fun e w'=>e=.returned (.tuple #[.string ⟨#[]⟩,.int .i64 5])∧Below w.heap.size w w':=by
 have z39:(⟨#[39]⟩:ByteArray).size=1:=rfl
 have hRz:(⟨#[39]⟩++s:ByteArray).size=R.size:=by rw [hR.out]
 have H1:=Lib.hid ((Ok.start w).alloc w.heap.size 23 [.int .u8 3,.int .i64 0,.string s] rfl)
 go_enter Tryz.func9,Tryz.ntmps9
 go_upto_region 1 with fail
 generalize (w.alloc (.cells #[.int .u8 3,.int .i64 0,.string s] 23))=W2 at H1 ⊢
 refine wp_region_held_drew (S:=fun W=>Ok w [kBlk (w.heap.size) 23 [.int .u8 3,.int .i64 0,.string s]] W) (by kernel_rfl) H1.out.drew (fun hHeld => ?_)
 refine wt3 (i:=0) rfl (by assumption) ?_
 refine wal (i:=1) rfl (fun K hK => ?_)
 go_simp
 refine (val_Check 3 0 s hs.out _).mono ?_
 rintro e w4 ⟨rfl,hb5⟩
 rw [hv.out]
 go_wp2_with fail
 refine hK.out _ _ (hHeld.below hb5) (fun hHeld => ?_)
 clear hK K
 try simp only [Act.put,wp1,wp2,wp3,wp4,wp5,wp6]
 refine wt3 (i:=2) rfl (by assumption) ?_
 refine wt3 (i:=3) rfl (by assumption) ?_
 refine wt3 (i:=4) rfl (by assumption) ?_
 refine wal (i:=5) rfl (fun K hK => ?_)
 go_simp
 refine (fail_code 6 (by decide) (by decide) _).mono ?_
 rintro e w6 ⟨rfl,hb7⟩
 go_wp2_with fail
 refine hK.out _ _ (hHeld.below hb7) (fun hHeld => ?_)
 clear hK K
 try simp only [Act.put,wp1,wp2,wp3,wp4,wp5,wp6]
 refine wt3 (i:=6) rfl (by assumption) ?_
 refine wt3 (i:=7) rfl (by assumption) ?_
 refine wpAnyH_done (by kernel_rfl) ?_ _
 clear H1
 have H8:=Lib.hid hHeld
 clear hHeld
 have F9:=H8.out.sees
 simp only [sees,kBlk,cellsAt,Nat.reduceAdd] at F9
 obtain ⟨⟨z0,c00,c01,c02,-⟩,-⟩:=F9
 go_wp2_with fail
 refine (HSH.out _ (hw.out.below H8.out.bel)).mono ?_
 rintro e w10 ⟨rfl,hb11⟩
 clear z0 c00 c01 c02
 have H12:=Lib.hid (H8.out.below hb11)
 clear hb11 H8
 have F13:=H12.out.sees
 simp only [sees,kBlk,cellsAt,Nat.reduceAdd] at F13
 obtain ⟨⟨z0,c00,c01,c02,-⟩,-⟩:=F13
 go_wp2_with fail
 refine (HOF.out _ (hw.out.below H12.out.bel)).mono ?_
 rintro e w14 ⟨ta,tn,tc,rfl,hb15⟩
 clear z0 c00 c01 c02
 have H16:=Lib.hid (H12.out.below hb15)
 clear hb15 H12
 have F17:=H16.out.sees
 simp only [sees,kBlk,cellsAt,Nat.reduceAdd] at F17
 obtain ⟨⟨z0,c00,c01,c02,-⟩,-⟩:=F17
 go_upto_region 6 with fail
 have y18:=z0
 clear z0 c00 c01 c02
 have H19:=Lib.hid (H16.out.var w14.heap.size 31 [.bool f,.int .u8 (a:Nat),.int .i64 n1,.string ⟨t1.toArray⟩,.slice ta tn tc] rfl)
 clear H16
 generalize (w14.alloc (.cells #[.bool f,.int .u8 (a:Nat),.int .i64 n1,.string ⟨t1.toArray⟩,.slice ta tn tc] 31))=W20 at H19 ⊢
 have F21:=H19.out.sees
 simp only [sees,kBlk,kVar,cellsAt,Nat.reduceAdd] at F21
 obtain ⟨⟨⟨z0,fz0⟩,c00,c01,c02,c03,c04,-⟩,⟨z1,c10,c11,c12,-⟩,-⟩:=F21
 go_wp2_with fail
 exact bodyPost_ret (v:=.tuple #[.string ⟨#[]⟩,.int .i64 5]) (by simp [results,Tryz.results9,go_sem]) rfl ⟨rfl,H19.out.bel⟩
theorem cst_4e (w:World) (s:ByteArray) (hv:Keep (valE 3 0 s.data.toList=0)) (hs:Hid (s.size≤4611686018427387904)) (hq:eq3 3 0 4 6 s.toList []=false) (HSH:Keep (∀ w,Words w→Calls Tryz.prog 15 #[.agg #[.int .u8 3,.int .i64 0,.string s]] w fun e w'=>e=.returned (.string s)∧Below w.heap.size w w')) (hw:Keep (Words w)) (f:Bool) (a:Nat) (n1:Int) (t1:List UInt8) (at_ er:Int) (HOF:Keep (∀ w,Words w→Calls Tryz.prog 11 #[.string s] w fun e w'=>∃ ta tn tc,e=.returned (.tuple #[.agg #[.bool f,.int .u8 (a:Nat),.int .i64 n1,.string ⟨t1.toArray⟩,.slice ta tn tc],.int .i64 at_,.int .i64 er])∧Below w.heap.size w w')) (he:(er != 0)=true) (R:ByteArray) (hR:Keep (R=⟨#[39]⟩++s)) (hz:s.size≤256) (hl:¬ (R.size:Int)>256) :
  Calls Tryz.prog 9 #[.agg #[.int .u8 3,.int .i64 0,.string s]] w fun e w'=>e=.returned (.tuple #[.string R,.int .i64 0])∧Below w.heap.size w w':=by
 have z39:(⟨#[39]⟩:ByteArray).size=1:=rfl
 have hRz:(⟨#[39]⟩++s:ByteArray).size=R.size:=by rw [hR.out]
 have H1:=Lib.hid ((Ok.start w).alloc w.heap.size 23 [.int .u8 3,.int .i64 0,.string s] rfl)
 go_enter Tryz.func9,Tryz.ntmps9
 go_upto_region 1 with fail
 generalize (w.alloc (.cells #[.int .u8 3,.int .i64 0,.string s] 23))=W2 at H1 ⊢
 refine wp_region_held_drew (S:=fun W=>Ok w [kBlk (w.heap.size) 23 [.int .u8 3,.int .i64 0,.string s]] W) (by kernel_rfl) H1.out.drew (fun hHeld => ?_)
 refine wt3 (i:=0) rfl (by assumption) ?_
 refine wal (i:=1) rfl (fun K hK => ?_)
 go_simp
 refine (val_Check 3 0 s hs.out _).mono ?_
 rintro e w4 ⟨rfl,hb5⟩
 rw [hv.out]
 go_wp2_with fail
 refine hK.out _ _ (hHeld.below hb5) (fun hHeld => ?_)
 clear hK K
 try simp only [Act.put,wp1,wp2,wp3,wp4,wp5,wp6]
 refine wt3 (i:=2) rfl (by assumption) ?_
 refine wt3 (i:=3) rfl (by assumption) ?_
 refine wt3 (i:=4) rfl (by assumption) ?_
 refine wal (i:=5) rfl (fun K hK => ?_)
 go_simp
 refine (fail_code 6 (by decide) (by decide) _).mono ?_
 rintro e w6 ⟨rfl,hb7⟩
 go_wp2_with fail
 refine hK.out _ _ (hHeld.below hb7) (fun hHeld => ?_)
 clear hK K
 try simp only [Act.put,wp1,wp2,wp3,wp4,wp5,wp6]
 refine wt3 (i:=6) rfl (by assumption) ?_
 refine wt3 (i:=7) rfl (by assumption) ?_
 refine wpAnyH_done (by kernel_rfl) ?_ _
 clear H1
 have H8:=Lib.hid hHeld
 clear hHeld
 have F9:=H8.out.sees
 simp only [sees,kBlk,cellsAt,Nat.reduceAdd] at F9
 obtain ⟨⟨z0,c00,c01,c02,-⟩,-⟩:=F9
 go_wp2_with fail
 refine (HSH.out _ (hw.out.below H8.out.bel)).mono ?_
 rintro e w10 ⟨rfl,hb11⟩
 clear z0 c00 c01 c02
 have H12:=Lib.hid (H8.out.below hb11)
 clear hb11 H8
 have F13:=H12.out.sees
 simp only [sees,kBlk,cellsAt,Nat.reduceAdd] at F13
 obtain ⟨⟨z0,c00,c01,c02,-⟩,-⟩:=F13
 go_wp2_with fail
 refine (HOF.out _ (hw.out.below H12.out.bel)).mono ?_
 rintro e w14 ⟨ta,tn,tc,rfl,hb15⟩
 clear z0 c00 c01 c02
 have H16:=Lib.hid (H12.out.below hb15)
 clear hb15 H12
 have F17:=H16.out.sees
 simp only [sees,kBlk,cellsAt,Nat.reduceAdd] at F17
 obtain ⟨⟨z0,c00,c01,c02,-⟩,-⟩:=F17
 go_upto_region 6 with fail
 have y18:=z0
 clear z0 c00 c01 c02
 have H19:=Lib.hid (H16.out.var w14.heap.size 31 [.bool f,.int .u8 (a:Nat),.int .i64 n1,.string ⟨t1.toArray⟩,.slice ta tn tc] rfl)
 clear H16
 generalize (w14.alloc (.cells #[.bool f,.int .u8 (a:Nat),.int .i64 n1,.string ⟨t1.toArray⟩,.slice ta tn tc] 31))=W20 at H19 ⊢
 have F21:=H19.out.sees
 simp only [sees,kBlk,kVar,cellsAt,Nat.reduceAdd] at F21
 obtain ⟨⟨⟨z0,fz0⟩,c00,c01,c02,c03,c04,-⟩,⟨z1,c10,c11,c12,-⟩,-⟩:=F21
 go_wp2_with fail
 exact bodyPost_ret (v:=.tuple #[.string R,.int .i64 0]) (by simp [results,Tryz.results9,go_sem,hR.out]) rfl ⟨rfl,H19.out.bel⟩
theorem cst_4fl (w:World) (s:ByteArray) (hv:Keep (valE 3 0 s.data.toList=0)) (hs:Hid (s.size≤4611686018427387904)) (hq:eq3 3 0 4 6 s.toList []=false) (HSH:Keep (∀ w,Words w→Calls Tryz.prog 15 #[.agg #[.int .u8 3,.int .i64 0,.string s]] w fun e w'=>e=.returned (.string s)∧Below w.heap.size w w')) (hw:Keep (Words w)) (f:Bool) (a:Nat) (n1:Int) (t1:List UInt8) (at_ er:Int) (HOF:Keep (∀ w,Words w→Calls Tryz.prog 11 #[.string s] w fun e w'=>∃ ta tn tc,e=.returned (.tuple #[.agg #[.bool f,.int .u8 (a:Nat),.int .i64 n1,.string ⟨t1.toArray⟩,.slice ta tn tc],.int .i64 at_,.int .i64 er])∧Below w.heap.size w w')) (he:er=0) (hf:f=true) (R:ByteArray) (hR:Keep (R=⟨#[39]⟩++s)) (hz:s.size≤256) (hl:(R.size:Int)>256) :
  Calls Tryz.prog 9 #[.agg #[.int .u8 3,.int .i64 0,.string s]] w fun e w'=>e=.returned (.tuple #[.string ⟨#[]⟩,.int .i64 5])∧Below w.heap.size w w':=by
 subst he hf
 have z39:(⟨#[39]⟩:ByteArray).size=1:=rfl
 have hRz:(⟨#[39]⟩++s:ByteArray).size=R.size:=by rw [hR.out]
 have H1:=Lib.hid ((Ok.start w).alloc w.heap.size 23 [.int .u8 3,.int .i64 0,.string s] rfl)
 go_enter Tryz.func9,Tryz.ntmps9
 go_upto_region 1 with fail
 generalize (w.alloc (.cells #[.int .u8 3,.int .i64 0,.string s] 23))=W2 at H1 ⊢
 refine wp_region_held_drew (S:=fun W=>Ok w [kBlk (w.heap.size) 23 [.int .u8 3,.int .i64 0,.string s]] W) (by kernel_rfl) H1.out.drew (fun hHeld => ?_)
 refine wt3 (i:=0) rfl (by assumption) ?_
 refine wal (i:=1) rfl (fun K hK => ?_)
 go_simp
 refine (val_Check 3 0 s hs.out _).mono ?_
 rintro e w4 ⟨rfl,hb5⟩
 rw [hv.out]
 go_wp2_with fail
 refine hK.out _ _ (hHeld.below hb5) (fun hHeld => ?_)
 clear hK K
 try simp only [Act.put,wp1,wp2,wp3,wp4,wp5,wp6]
 refine wt3 (i:=2) rfl (by assumption) ?_
 refine wt3 (i:=3) rfl (by assumption) ?_
 refine wt3 (i:=4) rfl (by assumption) ?_
 refine wal (i:=5) rfl (fun K hK => ?_)
 go_simp
 refine (fail_code 6 (by decide) (by decide) _).mono ?_
 rintro e w6 ⟨rfl,hb7⟩
 go_wp2_with fail
 refine hK.out _ _ (hHeld.below hb7) (fun hHeld => ?_)
 clear hK K
 try simp only [Act.put,wp1,wp2,wp3,wp4,wp5,wp6]
 refine wt3 (i:=6) rfl (by assumption) ?_
 refine wt3 (i:=7) rfl (by assumption) ?_
 refine wpAnyH_done (by kernel_rfl) ?_ _
 clear H1
 have H8:=Lib.hid hHeld
 clear hHeld
 have F9:=H8.out.sees
 simp only [sees,kBlk,cellsAt,Nat.reduceAdd] at F9
 obtain ⟨⟨z0,c00,c01,c02,-⟩,-⟩:=F9
 go_wp2_with fail
 refine (HSH.out _ (hw.out.below H8.out.bel)).mono ?_
 rintro e w10 ⟨rfl,hb11⟩
 clear z0 c00 c01 c02
 have H12:=Lib.hid (H8.out.below hb11)
 clear hb11 H8
 have F13:=H12.out.sees
 simp only [sees,kBlk,cellsAt,Nat.reduceAdd] at F13
 obtain ⟨⟨z0,c00,c01,c02,-⟩,-⟩:=F13
 go_wp2_with fail
 refine (HOF.out _ (hw.out.below H12.out.bel)).mono ?_
 rintro e w14 ⟨ta,tn,tc,rfl,hb15⟩
 clear z0 c00 c01 c02
 have H16:=Lib.hid (H12.out.below hb15)
 clear hb15 H12
 have F17:=H16.out.sees
 simp only [sees,kBlk,cellsAt,Nat.reduceAdd] at F17
 obtain ⟨⟨z0,c00,c01,c02,-⟩,-⟩:=F17
 go_upto_region 6 with fail
 have y18:=z0
 clear z0 c00 c01 c02
 have H19:=Lib.hid (H16.out.var w14.heap.size 31 [.bool true,.int .u8 (a:Nat),.int .i64 n1,.string ⟨t1.toArray⟩,.slice ta tn tc] rfl)
 clear H16
 generalize (w14.alloc (.cells #[.bool true,.int .u8 (a:Nat),.int .i64 n1,.string ⟨t1.toArray⟩,.slice ta tn tc] 31))=W20 at H19 ⊢
 have F21:=H19.out.sees
 simp only [sees,kBlk,kVar,cellsAt,Nat.reduceAdd] at F21
 obtain ⟨⟨⟨z0,fz0⟩,c00,c01,c02,c03,c04,-⟩,⟨z1,c10,c11,c12,-⟩,-⟩:=F21
 go_wp2_with fail
 exact bodyPost_ret (v:=.tuple #[.string ⟨#[]⟩,.int .i64 5]) (by simp [results,Tryz.results9,go_sem]) rfl ⟨rfl,H19.out.bel⟩
theorem cst_4f (w:World) (s:ByteArray) (hv:Keep (valE 3 0 s.data.toList=0)) (hs:Hid (s.size≤4611686018427387904)) (hq:eq3 3 0 4 6 s.toList []=false) (HSH:Keep (∀ w,Words w→Calls Tryz.prog 15 #[.agg #[.int .u8 3,.int .i64 0,.string s]] w fun e w'=>e=.returned (.string s)∧Below w.heap.size w w')) (hw:Keep (Words w)) (f:Bool) (a:Nat) (n1:Int) (t1:List UInt8) (at_ er:Int) (HOF:Keep (∀ w,Words w→Calls Tryz.prog 11 #[.string s] w fun e w'=>∃ ta tn tc,e=.returned (.tuple #[.agg #[.bool f,.int .u8 (a:Nat),.int .i64 n1,.string ⟨t1.toArray⟩,.slice ta tn tc],.int .i64 at_,.int .i64 er])∧Below w.heap.size w w')) (he:er=0) (hf:f=true) (R:ByteArray) (hR:Keep (R=⟨#[39]⟩++s)) (hz:s.size≤256) (hl:¬ (R.size:Int)>256) :
  Calls Tryz.prog 9 #[.agg #[.int .u8 3,.int .i64 0,.string s]] w fun e w'=>e=.returned (.tuple #[.string R,.int .i64 0])∧Below w.heap.size w w':=by
 subst he hf
 have z39:(⟨#[39]⟩:ByteArray).size=1:=rfl
 have hRz:(⟨#[39]⟩++s:ByteArray).size=R.size:=by rw [hR.out]
 have H1:=Lib.hid ((Ok.start w).alloc w.heap.size 23 [.int .u8 3,.int .i64 0,.string s] rfl)
 go_enter Tryz.func9,Tryz.ntmps9
 go_upto_region 1 with fail
 generalize (w.alloc (.cells #[.int .u8 3,.int .i64 0,.string s] 23))=W2 at H1 ⊢
 refine wp_region_held_drew (S:=fun W=>Ok w [kBlk (w.heap.size) 23 [.int .u8 3,.int .i64 0,.string s]] W) (by kernel_rfl) H1.out.drew (fun hHeld => ?_)
 refine wt3 (i:=0) rfl (by assumption) ?_
 refine wal (i:=1) rfl (fun K hK => ?_)
 go_simp
 refine (val_Check 3 0 s hs.out _).mono ?_
 rintro e w4 ⟨rfl,hb5⟩
 rw [hv.out]
 go_wp2_with fail
 refine hK.out _ _ (hHeld.below hb5) (fun hHeld => ?_)
 clear hK K
 try simp only [Act.put,wp1,wp2,wp3,wp4,wp5,wp6]
 refine wt3 (i:=2) rfl (by assumption) ?_
 refine wt3 (i:=3) rfl (by assumption) ?_
 refine wt3 (i:=4) rfl (by assumption) ?_
 refine wal (i:=5) rfl (fun K hK => ?_)
 go_simp
 refine (fail_code 6 (by decide) (by decide) _).mono ?_
 rintro e w6 ⟨rfl,hb7⟩
 go_wp2_with fail
 refine hK.out _ _ (hHeld.below hb7) (fun hHeld => ?_)
 clear hK K
 try simp only [Act.put,wp1,wp2,wp3,wp4,wp5,wp6]
 refine wt3 (i:=6) rfl (by assumption) ?_
 refine wt3 (i:=7) rfl (by assumption) ?_
 refine wpAnyH_done (by kernel_rfl) ?_ _
 clear H1
 have H8:=Lib.hid hHeld
 clear hHeld
 have F9:=H8.out.sees
 simp only [sees,kBlk,cellsAt,Nat.reduceAdd] at F9
 obtain ⟨⟨z0,c00,c01,c02,-⟩,-⟩:=F9
 go_wp2_with fail
 refine (HSH.out _ (hw.out.below H8.out.bel)).mono ?_
 rintro e w10 ⟨rfl,hb11⟩
 clear z0 c00 c01 c02
 have H12:=Lib.hid (H8.out.below hb11)
 clear hb11 H8
 have F13:=H12.out.sees
 simp only [sees,kBlk,cellsAt,Nat.reduceAdd] at F13
 obtain ⟨⟨z0,c00,c01,c02,-⟩,-⟩:=F13
 go_wp2_with fail
 refine (HOF.out _ (hw.out.below H12.out.bel)).mono ?_
 rintro e w14 ⟨ta,tn,tc,rfl,hb15⟩
 clear z0 c00 c01 c02
 have H16:=Lib.hid (H12.out.below hb15)
 clear hb15 H12
 have F17:=H16.out.sees
 simp only [sees,kBlk,cellsAt,Nat.reduceAdd] at F17
 obtain ⟨⟨z0,c00,c01,c02,-⟩,-⟩:=F17
 go_upto_region 6 with fail
 have y18:=z0
 clear z0 c00 c01 c02
 have H19:=Lib.hid (H16.out.var w14.heap.size 31 [.bool true,.int .u8 (a:Nat),.int .i64 n1,.string ⟨t1.toArray⟩,.slice ta tn tc] rfl)
 clear H16
 generalize (w14.alloc (.cells #[.bool true,.int .u8 (a:Nat),.int .i64 n1,.string ⟨t1.toArray⟩,.slice ta tn tc] 31))=W20 at H19 ⊢
 have F21:=H19.out.sees
 simp only [sees,kBlk,kVar,cellsAt,Nat.reduceAdd] at F21
 obtain ⟨⟨⟨z0,fz0⟩,c00,c01,c02,c03,c04,-⟩,⟨z1,c10,c11,c12,-⟩,-⟩:=F21
 go_wp2_with fail
 exact bodyPost_ret (v:=.tuple #[.string R,.int .i64 0]) (by simp [results,Tryz.results9,go_sem,hR.out]) rfl ⟨rfl,H19.out.bel⟩
theorem cst_4vl (w:World) (s:ByteArray) (hv:Keep (valE 3 0 s.data.toList=0)) (hs:Hid (s.size≤4611686018427387904)) (hq:eq3 3 0 4 6 s.toList []=false) (HSH:Keep (∀ w,Words w→Calls Tryz.prog 15 #[.agg #[.int .u8 3,.int .i64 0,.string s]] w fun e w'=>e=.returned (.string s)∧Below w.heap.size w w')) (hw:Keep (Words w)) (f:Bool) (a:Nat) (n1:Int) (t1:List UInt8) (at_ er:Int) (HOF:Keep (∀ w,Words w→Calls Tryz.prog 11 #[.string s] w fun e w'=>∃ ta tn tc,e=.returned (.tuple #[.agg #[.bool f,.int .u8 (a:Nat),.int .i64 n1,.string ⟨t1.toArray⟩,.slice ta tn tc],.int .i64 at_,.int .i64 er])∧Below w.heap.size w w')) (he:er=0) (hf:f=false) (hq3:eq3 (a:Nat) n1 3 0 t1 s.toList=false) (R:ByteArray) (hR:Keep (R=⟨#[39]⟩++s)) (hz:s.size≤256) (hl:(R.size:Int)>256) :
  Calls Tryz.prog 9 #[.agg #[.int .u8 3,.int .i64 0,.string s]] w fun e w'=>e=.returned (.tuple #[.string ⟨#[]⟩,.int .i64 5])∧Below w.heap.size w w':=by
 subst he hf
 have z39:(⟨#[39]⟩:ByteArray).size=1:=rfl
 have hRz:(⟨#[39]⟩++s:ByteArray).size=R.size:=by rw [hR.out]
 have H1:=Lib.hid ((Ok.start w).alloc w.heap.size 23 [.int .u8 3,.int .i64 0,.string s] rfl)
 go_enter Tryz.func9,Tryz.ntmps9
 go_upto_region 1 with fail
 generalize (w.alloc (.cells #[.int .u8 3,.int .i64 0,.string s] 23))=W2 at H1 ⊢
 refine wp_region_held_drew (S:=fun W=>Ok w [kBlk (w.heap.size) 23 [.int .u8 3,.int .i64 0,.string s]] W) (by kernel_rfl) H1.out.drew (fun hHeld => ?_)
 refine wt3 (i:=0) rfl (by assumption) ?_
 refine wal (i:=1) rfl (fun K hK => ?_)
 go_simp
 refine (val_Check 3 0 s hs.out _).mono ?_
 rintro e w4 ⟨rfl,hb5⟩
 rw [hv.out]
 go_wp2_with fail
 refine hK.out _ _ (hHeld.below hb5) (fun hHeld => ?_)
 clear hK K
 try simp only [Act.put,wp1,wp2,wp3,wp4,wp5,wp6]
 refine wt3 (i:=2) rfl (by assumption) ?_
 refine wt3 (i:=3) rfl (by assumption) ?_
 refine wt3 (i:=4) rfl (by assumption) ?_
 refine wal (i:=5) rfl (fun K hK => ?_)
 go_simp
 refine (fail_code 6 (by decide) (by decide) _).mono ?_
 rintro e w6 ⟨rfl,hb7⟩
 go_wp2_with fail
 refine hK.out _ _ (hHeld.below hb7) (fun hHeld => ?_)
 clear hK K
 try simp only [Act.put,wp1,wp2,wp3,wp4,wp5,wp6]
 refine wt3 (i:=6) rfl (by assumption) ?_
 refine wt3 (i:=7) rfl (by assumption) ?_
 refine wpAnyH_done (by kernel_rfl) ?_ _
 clear H1
 have H8:=Lib.hid hHeld
 clear hHeld
 have F9:=H8.out.sees
 simp only [sees,kBlk,cellsAt,Nat.reduceAdd] at F9
 obtain ⟨⟨z0,c00,c01,c02,-⟩,-⟩:=F9
 go_wp2_with fail
 refine (HSH.out _ (hw.out.below H8.out.bel)).mono ?_
 rintro e w10 ⟨rfl,hb11⟩
 clear z0 c00 c01 c02
 have H12:=Lib.hid (H8.out.below hb11)
 clear hb11 H8
 have F13:=H12.out.sees
 simp only [sees,kBlk,cellsAt,Nat.reduceAdd] at F13
 obtain ⟨⟨z0,c00,c01,c02,-⟩,-⟩:=F13
 go_wp2_with fail
 refine (HOF.out _ (hw.out.below H12.out.bel)).mono ?_
 rintro e w14 ⟨ta,tn,tc,rfl,hb15⟩
 clear z0 c00 c01 c02
 have H16:=Lib.hid (H12.out.below hb15)
 clear hb15 H12
 have F17:=H16.out.sees
 simp only [sees,kBlk,cellsAt,Nat.reduceAdd] at F17
 obtain ⟨⟨z0,c00,c01,c02,-⟩,-⟩:=F17
 go_upto_region 6 with fail
 have y18:=z0
 clear z0 c00 c01 c02
 have H19:=Lib.hid (H16.out.var w14.heap.size 31 [.bool false,.int .u8 (a:Nat),.int .i64 n1,.string ⟨t1.toArray⟩,.slice ta tn tc] rfl)
 clear H16
 generalize (w14.alloc (.cells #[.bool false,.int .u8 (a:Nat),.int .i64 n1,.string ⟨t1.toArray⟩,.slice ta tn tc] 31))=W20 at H19 ⊢
 have F21:=H19.out.sees
 simp only [sees,kBlk,kVar,cellsAt,Nat.reduceAdd] at F21
 obtain ⟨⟨⟨z0,fz0⟩,c00,c01,c02,c03,c04,-⟩,⟨z1,c10,c11,c12,-⟩,-⟩:=F21
 go_wp2_with fail
 exact bodyPost_ret (v:=.tuple #[.string ⟨#[]⟩,.int .i64 5]) (by simp [results,Tryz.results9,go_sem]) rfl ⟨rfl,H19.out.bel⟩
theorem cst_4v (w:World) (s:ByteArray) (hv:Keep (valE 3 0 s.data.toList=0)) (hs:Hid (s.size≤4611686018427387904)) (hq:eq3 3 0 4 6 s.toList []=false) (HSH:Keep (∀ w,Words w→Calls Tryz.prog 15 #[.agg #[.int .u8 3,.int .i64 0,.string s]] w fun e w'=>e=.returned (.string s)∧Below w.heap.size w w')) (hw:Keep (Words w)) (f:Bool) (a:Nat) (n1:Int) (t1:List UInt8) (at_ er:Int) (HOF:Keep (∀ w,Words w→Calls Tryz.prog 11 #[.string s] w fun e w'=>∃ ta tn tc,e=.returned (.tuple #[.agg #[.bool f,.int .u8 (a:Nat),.int .i64 n1,.string ⟨t1.toArray⟩,.slice ta tn tc],.int .i64 at_,.int .i64 er])∧Below w.heap.size w w')) (he:er=0) (hf:f=false) (hq3:eq3 (a:Nat) n1 3 0 t1 s.toList=false) (R:ByteArray) (hR:Keep (R=⟨#[39]⟩++s)) (hz:s.size≤256) (hl:¬ (R.size:Int)>256) :
  Calls Tryz.prog 9 #[.agg #[.int .u8 3,.int .i64 0,.string s]] w fun e w'=>e=.returned (.tuple #[.string R,.int .i64 0])∧Below w.heap.size w w':=by
 subst he hf
 have z39:(⟨#[39]⟩:ByteArray).size=1:=rfl
 have hRz:(⟨#[39]⟩++s:ByteArray).size=R.size:=by rw [hR.out]
 have H1:=Lib.hid ((Ok.start w).alloc w.heap.size 23 [.int .u8 3,.int .i64 0,.string s] rfl)
 go_enter Tryz.func9,Tryz.ntmps9
 go_upto_region 1 with fail
 generalize (w.alloc (.cells #[.int .u8 3,.int .i64 0,.string s] 23))=W2 at H1 ⊢
 refine wp_region_held_drew (S:=fun W=>Ok w [kBlk (w.heap.size) 23 [.int .u8 3,.int .i64 0,.string s]] W) (by kernel_rfl) H1.out.drew (fun hHeld => ?_)
 refine wt3 (i:=0) rfl (by assumption) ?_
 refine wal (i:=1) rfl (fun K hK => ?_)
 go_simp
 refine (val_Check 3 0 s hs.out _).mono ?_
 rintro e w4 ⟨rfl,hb5⟩
 rw [hv.out]
 go_wp2_with fail
 refine hK.out _ _ (hHeld.below hb5) (fun hHeld => ?_)
 clear hK K
 try simp only [Act.put,wp1,wp2,wp3,wp4,wp5,wp6]
 refine wt3 (i:=2) rfl (by assumption) ?_
 refine wt3 (i:=3) rfl (by assumption) ?_
 refine wt3 (i:=4) rfl (by assumption) ?_
 refine wal (i:=5) rfl (fun K hK => ?_)
 go_simp
 refine (fail_code 6 (by decide) (by decide) _).mono ?_
 rintro e w6 ⟨rfl,hb7⟩
 go_wp2_with fail
 refine hK.out _ _ (hHeld.below hb7) (fun hHeld => ?_)
 clear hK K
 try simp only [Act.put,wp1,wp2,wp3,wp4,wp5,wp6]
 refine wt3 (i:=6) rfl (by assumption) ?_
 refine wt3 (i:=7) rfl (by assumption) ?_
 refine wpAnyH_done (by kernel_rfl) ?_ _
 clear H1
 have H8:=Lib.hid hHeld
 clear hHeld
 have F9:=H8.out.sees
 simp only [sees,kBlk,cellsAt,Nat.reduceAdd] at F9
 obtain ⟨⟨z0,c00,c01,c02,-⟩,-⟩:=F9
 go_wp2_with fail
 refine (HSH.out _ (hw.out.below H8.out.bel)).mono ?_
 rintro e w10 ⟨rfl,hb11⟩
 clear z0 c00 c01 c02
 have H12:=Lib.hid (H8.out.below hb11)
 clear hb11 H8
 have F13:=H12.out.sees
 simp only [sees,kBlk,cellsAt,Nat.reduceAdd] at F13
 obtain ⟨⟨z0,c00,c01,c02,-⟩,-⟩:=F13
 go_wp2_with fail
 refine (HOF.out _ (hw.out.below H12.out.bel)).mono ?_
 rintro e w14 ⟨ta,tn,tc,rfl,hb15⟩
 clear z0 c00 c01 c02
 have H16:=Lib.hid (H12.out.below hb15)
 clear hb15 H12
 have F17:=H16.out.sees
 simp only [sees,kBlk,cellsAt,Nat.reduceAdd] at F17
 obtain ⟨⟨z0,c00,c01,c02,-⟩,-⟩:=F17
 go_upto_region 6 with fail
 have y18:=z0
 clear z0 c00 c01 c02
 have H19:=Lib.hid (H16.out.var w14.heap.size 31 [.bool false,.int .u8 (a:Nat),.int .i64 n1,.string ⟨t1.toArray⟩,.slice ta tn tc] rfl)
 clear H16
 generalize (w14.alloc (.cells #[.bool false,.int .u8 (a:Nat),.int .i64 n1,.string ⟨t1.toArray⟩,.slice ta tn tc] 31))=W20 at H19 ⊢
 have F21:=H19.out.sees
 simp only [sees,kBlk,kVar,cellsAt,Nat.reduceAdd] at F21
 obtain ⟨⟨⟨z0,fz0⟩,c00,c01,c02,c03,c04,-⟩,⟨z1,c10,c11,c12,-⟩,-⟩:=F21
 go_wp2_with fail
 exact bodyPost_ret (v:=.tuple #[.string R,.int .i64 0]) (by simp [results,Tryz.results9,go_sem,hR.out]) rfl ⟨rfl,H19.out.bel⟩
theorem cst_4n (w:World) (s:ByteArray) (hv:Keep (valE 3 0 s.data.toList=0)) (hs:Hid (s.size≤4611686018427387904)) (hq:eq3 3 0 4 6 s.toList []=false) (HSH:Keep (∀ w,Words w→Calls Tryz.prog 15 #[.agg #[.int .u8 3,.int .i64 0,.string s]] w fun e w'=>e=.returned (.string s)∧Below w.heap.size w w')) (hw:Keep (Words w)) (f:Bool) (a:Nat) (n1:Int) (t1:List UInt8) (at_ er:Int) (HOF:Keep (∀ w,Words w→Calls Tryz.prog 11 #[.string s] w fun e w'=>∃ ta tn tc,e=.returned (.tuple #[.agg #[.bool f,.int .u8 (a:Nat),.int .i64 n1,.string ⟨t1.toArray⟩,.slice ta tn tc],.int .i64 at_,.int .i64 er])∧Below w.heap.size w w')) (he:er=0) (hf:f=false) (hq3:eq3 (a:Nat) n1 3 0 t1 s.toList=true)  (hl:¬ (s.size:Int)>256) :
  Calls Tryz.prog 9 #[.agg #[.int .u8 3,.int .i64 0,.string s]] w fun e w'=>e=.returned (.tuple #[.string s,.int .i64 0])∧Below w.heap.size w w':=by
 subst he hf
 have H1:=Lib.hid ((Ok.start w).alloc w.heap.size 23 [.int .u8 3,.int .i64 0,.string s] rfl)
 go_enter Tryz.func9,Tryz.ntmps9
 go_upto_region 1 with fail
 generalize (w.alloc (.cells #[.int .u8 3,.int .i64 0,.string s] 23))=W2 at H1 ⊢
 refine wp_region_held_drew (S:=fun W=>Ok w [kBlk (w.heap.size) 23 [.int .u8 3,.int .i64 0,.string s]] W) (by kernel_rfl) H1.out.drew (fun hHeld => ?_)
 refine wt3 (i:=0) rfl (by assumption) ?_
 refine wal (i:=1) rfl (fun K hK => ?_)
 go_simp
 refine (val_Check 3 0 s hs.out _).mono ?_
 rintro e w4 ⟨rfl,hb5⟩
 rw [hv.out]
 go_wp2_with fail
 refine hK.out _ _ (hHeld.below hb5) (fun hHeld => ?_)
 clear hK K
 try simp only [Act.put,wp1,wp2,wp3,wp4,wp5,wp6]
 refine wt3 (i:=2) rfl (by assumption) ?_
 refine wt3 (i:=3) rfl (by assumption) ?_
 refine wt3 (i:=4) rfl (by assumption) ?_
 refine wal (i:=5) rfl (fun K hK => ?_)
 go_simp
 refine (fail_code 6 (by decide) (by decide) _).mono ?_
 rintro e w6 ⟨rfl,hb7⟩
 go_wp2_with fail
 refine hK.out _ _ (hHeld.below hb7) (fun hHeld => ?_)
 clear hK K
 try simp only [Act.put,wp1,wp2,wp3,wp4,wp5,wp6]
 refine wt3 (i:=6) rfl (by assumption) ?_
 refine wt3 (i:=7) rfl (by assumption) ?_
 refine wpAnyH_done (by kernel_rfl) ?_ _
 clear H1
 have H8:=Lib.hid hHeld
 clear hHeld
 have F9:=H8.out.sees
 simp only [sees,kBlk,cellsAt,Nat.reduceAdd] at F9
 obtain ⟨⟨z0,c00,c01,c02,-⟩,-⟩:=F9
 go_wp2_with fail
 refine (HSH.out _ (hw.out.below H8.out.bel)).mono ?_
 rintro e w10 ⟨rfl,hb11⟩
 clear z0 c00 c01 c02
 have H12:=Lib.hid (H8.out.below hb11)
 clear hb11 H8
 have F13:=H12.out.sees
 simp only [sees,kBlk,cellsAt,Nat.reduceAdd] at F13
 obtain ⟨⟨z0,c00,c01,c02,-⟩,-⟩:=F13
 go_wp2_with fail
 refine (HOF.out _ (hw.out.below H12.out.bel)).mono ?_
 rintro e w14 ⟨ta,tn,tc,rfl,hb15⟩
 clear z0 c00 c01 c02
 have H16:=Lib.hid (H12.out.below hb15)
 clear hb15 H12
 have F17:=H16.out.sees
 simp only [sees,kBlk,cellsAt,Nat.reduceAdd] at F17
 obtain ⟨⟨z0,c00,c01,c02,-⟩,-⟩:=F17
 go_upto_region 6 with fail
 have y18:=z0
 clear z0 c00 c01 c02
 have H19:=Lib.hid (H16.out.var w14.heap.size 31 [.bool false,.int .u8 (a:Nat),.int .i64 n1,.string ⟨t1.toArray⟩,.slice ta tn tc] rfl)
 clear H16
 generalize (w14.alloc (.cells #[.bool false,.int .u8 (a:Nat),.int .i64 n1,.string ⟨t1.toArray⟩,.slice ta tn tc] 31))=W20 at H19 ⊢
 have F21:=H19.out.sees
 simp only [sees,kBlk,kVar,cellsAt,Nat.reduceAdd] at F21
 obtain ⟨⟨⟨z0,fz0⟩,c00,c01,c02,c03,c04,-⟩,⟨z1,c10,c11,c12,-⟩,-⟩:=F21
 go_wp2_with fail
 exact bodyPost_ret (v:=.tuple #[.string s,.int .i64 0]) (by simp [results,Tryz.results9,go_sem]) rfl ⟨rfl,H19.out.bel⟩
