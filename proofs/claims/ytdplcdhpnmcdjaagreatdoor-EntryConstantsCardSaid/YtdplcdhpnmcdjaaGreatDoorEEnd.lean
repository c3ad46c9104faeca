/- entry.Constant. -/
import Derived.Test.YtdplcdhpnmcdjaaGreatDoorEEnc
import Derived.Test.YtdplcdhpnmcdjaaGreatDoorETg
import Derived.Test.YtdplcdhpnmcdjaaGreatDoorEShw
namespace Go.Proofs.YtdplcdhpnmcdjaaGreatDoor
set_option maxRecDepth 100000
set_option maxHeartbeats 8000000
open Go.RowKit Go.Proofs.Tryz
attribute [local go_sem high] ju
def gj (l:List UInt8):Bool:=decide ((aV l).2.2≠0) || ((aV l).1.f || !decide ((aV l).1.v=(3,0,l)))
def eX (k:Nat) (l:List UInt8):List UInt8:=if k=3∧gj l=true then 39::l else l
noncomputable def cp (k:Nat) (n:Int) (t:List UInt8):List UInt8×Int :=
 if bm k n t≠0∨(k=4∧n=6) then ([],2)
 else if 256<(eX k (cu k n t)).length then ([],5) else (eX k (cu k n t),0)
theorem i7 {k:Nat} {n:Int} {t:List UInt8} (h:bm k n t≠0∨(k=4∧n=6)):cp k n t=([],2):=if_pos h
theorem jo {k:Nat} {n:Int} {t:List UInt8} (h:¬ (bm k n t≠0∨(k=4∧n=6))) (h2:256<(eX k (cu k n t)).length):cp k n t=([],5):=by unfold cp; rw [if_neg h,if_pos h2]
theorem jp {k:Nat} {n:Int} {t:List UInt8} (h:¬ (bm k n t≠0∨(k=4∧n=6))) (h2:¬ 256<(eX k (cu k n t)).length):cp k n t=(eX k (cu k n t),0):=by unfold cp; rw [if_neg h,if_neg h2]
theorem i8 {l:List UInt8} {m:Mn} {a e:Int} (h:aV l=(m,a,e)):gj l=(decide (e≠0) || (m.f || !decide (m.v=(3,0,l)))):=by unfold gj; rw [h]
theorem xU (k:Nat) (n:Int) (s:ByteArray) (E:Int) (hv:ao (bm k n s.data.toList=E)) (hs:Hid (s.size≤4611686018427387904)) (hE:(E != 0)=true) (w:World) :
  Calls prog 18 #[.agg #[.int .u8 (k:Nat),.int .i64 n,.string s]] w fun e w'=>e=.returned (.tuple #[.string ⟨#[]⟩,.int .i64 2])∧Below w.heap.size w w':=by
 have H1:=Lib.hid ((Ok.start w).alloc w.heap.size 35 [.int .u8 (k:Nat),.int .i64 n,.string s] rfl)
 go_enter func18,ntmps18
 go_upto_region 1 with fail
 generalize (w.alloc (.cells #[.int .u8 (k:Nat),.int .i64 n,.string s] 35))=W2 at H1 ⊢
 refine wp_region_held_drew (S:=fun W=>Ok w [ac (w.heap.size) 35 [.int .u8 (k:Nat),.int .i64 n,.string s]] W) (by kernel_rfl) H1.out.drew (fun hHeld => ?_)
 refine wt3 0 ?_
 refine wal 1 fun K hK => ?_
 go_simp
 refine (aY k n s hs.out _).mono ?_
 rintro e w4 ⟨rfl,hb5⟩
 rw [hv.out]
 go_wp2_with fail
 refine hK.out _ _ (hHeld.below hb5) (fun hHeld => ?_)
 clear hK K
 refine wn ?_
 refine wt3 2 ?_
 refine wt3 3 ?_
 refine wsk 4 ?_
 refine wsk 5 ?_
 refine wsk 6 ?_
 refine wt3 7 ?_
 refine wpAnyH_done (by kernel_rfl) ?_ _
 clear H1
 have H6:=Lib.hid hHeld
 clear hHeld
 have F7:=sE H6
 go_wp2_with fail
 exact bodyPost_ret (v:=.tuple #[.string ⟨#[]⟩,.int .i64 2]) (by simp [results,results18,go_sem]) rfl ⟨rfl,H6.out.bel⟩
theorem xV (hv:ao (bm 4 6 []=0)) (w:World) :
  Calls prog 18 #[.agg #[.int .u8 4,.int .i64 6,.string ⟨#[]⟩]] w fun e w'=>e=.returned (.tuple #[.string ⟨#[]⟩,.int .i64 2])∧Below w.heap.size w w':=by
 have hs:=Lib.hid (show (⟨#[]⟩:ByteArray).size≤4611686018427387904 by decide)
 have H1:=Lib.hid ((Ok.start w).alloc w.heap.size 35 [.int .u8 4,.int .i64 6,.string ⟨#[]⟩] rfl)
 go_enter func18,ntmps18
 go_upto_region 1 with fail
 generalize (w.alloc (.cells #[.int .u8 4,.int .i64 6,.string ⟨#[]⟩] 35))=W2 at H1 ⊢
 refine wp_region_held_drew (S:=fun W=>Ok w [ac (w.heap.size) 35 [.int .u8 4,.int .i64 6,.string ⟨#[]⟩]] W) (by kernel_rfl) H1.out.drew (fun hHeld => ?_)
 refine wt3 0 ?_
 refine wal 1 fun K hK => ?_
 go_simp
 refine (aY 4 6 ⟨#[]⟩ hs.out _).mono ?_
 rintro e w4 ⟨rfl,hb5⟩
 rw [(show bm 4 6 (⟨#[]⟩:ByteArray).data.toList=0 from hv.out)]
 go_wp2_with fail
 refine hK.out _ _ (hHeld.below hb5) (fun hHeld => ?_)
 clear hK K
 refine wn ?_
 refine wt3 2 ?_
 refine wt3 3 ?_
 refine wt3 4 ?_
 refine wal 5 fun K hK => ?_
 go_simp
 refine (aU 6 (by decide) (by decide) _).mono ?_
 rintro e w6 ⟨rfl,hb7⟩
 go_wp2_with fail
 refine hK.out _ _ (hHeld.below hb7) (fun hHeld => ?_)
 clear hK K
 refine wn ?_
 refine wt3 6 ?_
 refine wt3 7 ?_
 refine wpAnyH_done (by kernel_rfl) ?_ _
 clear H1
 have H8:=Lib.hid hHeld
 clear hHeld
 have F9:=sE H8
 go_wp2_with fail
 exact bodyPost_ret (v:=.tuple #[.string ⟨#[]⟩,.int .i64 2]) (by simp [results,results18,go_sem]) rfl ⟨rfl,H8.out.bel⟩
theorem vQ (w:World) (k:Nat) (n:Int) (s:ByteArray) (hv:ao (bm k n s.data.toList=0)) (hs:Hid (s.size≤4611686018427387904)) (hq:eq3 k n 4 6 s.toList []=false) (hk:((k:Int) == 3)=false) (S:ByteArray) (HSH:ao (∀ w,Words w→Calls prog 39 #[.agg #[.int .u8 (k:Nat),.int .i64 n,.string s]] w fun e w'=>e=.returned (.string S)∧Below w.heap.size w w')) (hw:ao (Words w)) (hl:(S.size:Int)>256) :
  Calls prog 18 #[.agg #[.int .u8 (k:Nat),.int .i64 n,.string s]] w fun e w'=>e=.returned (.tuple #[.string ⟨#[]⟩,.int .i64 5])∧Below w.heap.size w w':=by
 have H1:=Lib.hid ((Ok.start w).alloc w.heap.size 35 [.int .u8 (k:Nat),.int .i64 n,.string s] rfl)
 go_enter func18,ntmps18
 go_upto_region 1 with fail
 generalize (w.alloc (.cells #[.int .u8 (k:Nat),.int .i64 n,.string s] 35))=W2 at H1 ⊢
 refine wp_region_held_drew (S:=fun W=>Ok w [ac (w.heap.size) 35 [.int .u8 (k:Nat),.int .i64 n,.string s]] W) (by kernel_rfl) H1.out.drew (fun hHeld => ?_)
 refine wt3 0 ?_
 refine wal 1 fun K hK => ?_
 go_simp
 refine (aY k n s hs.out _).mono ?_
 rintro e w4 ⟨rfl,hb5⟩
 rw [hv.out]
 go_wp2_with fail
 refine hK.out _ _ (hHeld.below hb5) (fun hHeld => ?_)
 clear hK K
 refine wn ?_
 refine wt3 2 ?_
 refine wt3 3 ?_
 refine wt3 4 ?_
 refine wal 5 fun K hK => ?_
 go_simp
 refine (aU 6 (by decide) (by decide) _).mono ?_
 rintro e w6 ⟨rfl,hb7⟩
 go_wp2_with fail
 refine hK.out _ _ (hHeld.below hb7) (fun hHeld => ?_)
 clear hK K
 refine wn ?_
 refine wt3 6 ?_
 refine wt3 7 ?_
 refine wpAnyH_done (by kernel_rfl) ?_ _
 clear H1
 have H8:=Lib.hid hHeld
 clear hHeld
 have F9:=sE H8
 go_wp2_with fail
 refine cM (HSH.out _ (hw.out.below H8.out.bel)) H8 fun w10 H12=>?_
 clear F9 H8
 have F13:=sE H12
 go_wp2_with fail
 exact bodyPost_ret (v:=.tuple #[.string ⟨#[]⟩,.int .i64 5]) (by simp [results,results18,go_sem]) rfl ⟨rfl,H12.out.bel⟩
theorem vR (w:World) (k:Nat) (n:Int) (s:ByteArray) (hv:ao (bm k n s.data.toList=0)) (hs:Hid (s.size≤4611686018427387904)) (hq:eq3 k n 4 6 s.toList []=false) (hk:((k:Int) == 3)=false) (S:ByteArray) (HSH:ao (∀ w,Words w→Calls prog 39 #[.agg #[.int .u8 (k:Nat),.int .i64 n,.string s]] w fun e w'=>e=.returned (.string S)∧Below w.heap.size w w')) (hw:ao (Words w)) (hl:¬ (S.size:Int)>256) :
  Calls prog 18 #[.agg #[.int .u8 (k:Nat),.int .i64 n,.string s]] w fun e w'=>e=.returned (.tuple #[.string S,.int .i64 0])∧Below w.heap.size w w':=by
 have H1:=Lib.hid ((Ok.start w).alloc w.heap.size 35 [.int .u8 (k:Nat),.int .i64 n,.string s] rfl)
 go_enter func18,ntmps18
 go_upto_region 1 with fail
 generalize (w.alloc (.cells #[.int .u8 (k:Nat),.int .i64 n,.string s] 35))=W2 at H1 ⊢
 refine wp_region_held_drew (S:=fun W=>Ok w [ac (w.heap.size) 35 [.int .u8 (k:Nat),.int .i64 n,.string s]] W) (by kernel_rfl) H1.out.drew (fun hHeld => ?_)
 refine wt3 0 ?_
 refine wal 1 fun K hK => ?_
 go_simp
 refine (aY k n s hs.out _).mono ?_
 rintro e w4 ⟨rfl,hb5⟩
 rw [hv.out]
 go_wp2_with fail
 refine hK.out _ _ (hHeld.below hb5) (fun hHeld => ?_)
 clear hK K
 refine wn ?_
 refine wt3 2 ?_
 refine wt3 3 ?_
 refine wt3 4 ?_
 refine wal 5 fun K hK => ?_
 go_simp
 refine (aU 6 (by decide) (by decide) _).mono ?_
 rintro e w6 ⟨rfl,hb7⟩
 go_wp2_with fail
 refine hK.out _ _ (hHeld.below hb7) (fun hHeld => ?_)
 clear hK K
 refine wn ?_
 refine wt3 6 ?_
 refine wt3 7 ?_
 refine wpAnyH_done (by kernel_rfl) ?_ _
 clear H1
 have H8:=Lib.hid hHeld
 clear hHeld
 have F9:=sE H8
 go_wp2_with fail
 refine cM (HSH.out _ (hw.out.below H8.out.bel)) H8 fun w10 H12=>?_
 clear F9 H8
 have F13:=sE H12
 go_wp2_with fail
 exact bodyPost_ret (v:=.tuple #[.string S,.int .i64 0]) (by simp [results,results18,go_sem]) rfl ⟨rfl,H12.out.bel⟩
theorem sV (w:World) (s:ByteArray) (hv:ao (bm 3 0 s.data.toList=0)) (hs:Hid (s.size≤4611686018427387904)) (hq:eq3 3 0 4 6 s.toList []=false) (HSH:ao (∀ w,Words w→Calls prog 39 #[.agg #[.int .u8 3,.int .i64 0,.string s]] w fun e w'=>e=.returned (.string s)∧Below w.heap.size w w')) (hw:ao (Words w)) (f:Bool) (a:Nat) (n1:Int) (t1:List UInt8) (at_ er:Int) (HOF:ao (∀ w,Words w→Calls prog 35 #[.string s] w fun e w'=>∃ ta tn tc,e=.returned (.tuple #[.agg #[.bool f,.int .u8 (a:Nat),.int .i64 n1,.string ⟨t1.toArray⟩,.slice ta tn tc],.int .i64 at_,.int .i64 er])∧Below w.heap.size w w')) (he:(er != 0)=true) (R:ByteArray) (hR:ao (R=⟨#[39]⟩++s)) (hz:s.size≤256) (hl:(R.size:Int)>256) :
  Calls prog 18 #[.agg #[.int .u8 3,.int .i64 0,.string s]] w fun e w'=>e=.returned (.tuple #[.string ⟨#[]⟩,.int .i64 5])∧Below w.heap.size w w':=by
 have z39:(⟨#[39]⟩:ByteArray).size=1:=rfl
 have hRz:(⟨#[39]⟩++s:ByteArray).size=R.size:=by rw [hR.out]
 have H1:=Lib.hid ((Ok.start w).alloc w.heap.size 35 [.int .u8 3,.int .i64 0,.string s] rfl)
 go_enter func18,ntmps18
 go_upto_region 1 with fail
 generalize (w.alloc (.cells #[.int .u8 3,.int .i64 0,.string s] 35))=W2 at H1 ⊢
 refine wp_region_held_drew (S:=fun W=>Ok w [ac (w.heap.size) 35 [.int .u8 3,.int .i64 0,.string s]] W) (by kernel_rfl) H1.out.drew (fun hHeld => ?_)
 refine wt3 0 ?_
 refine wal 1 fun K hK => ?_
 go_simp
 refine (aY 3 0 s hs.out _).mono ?_
 rintro e w4 ⟨rfl,hb5⟩
 rw [hv.out]
 go_wp2_with fail
 refine hK.out _ _ (hHeld.below hb5) (fun hHeld => ?_)
 clear hK K
 refine wn ?_
 refine wt3 2 ?_
 refine wt3 3 ?_
 refine wt3 4 ?_
 refine wal 5 fun K hK => ?_
 go_simp
 refine (aU 6 (by decide) (by decide) _).mono ?_
 rintro e w6 ⟨rfl,hb7⟩
 go_wp2_with fail
 refine hK.out _ _ (hHeld.below hb7) (fun hHeld => ?_)
 clear hK K
 refine wn ?_
 refine wt3 6 ?_
 refine wt3 7 ?_
 refine wpAnyH_done (by kernel_rfl) ?_ _
 clear H1
 have H8:=Lib.hid hHeld
 clear hHeld
 have F9:=sE H8
 go_wp2_with fail
 refine cM (HSH.out _ (hw.out.below H8.out.bel)) H8 fun w10 H12=>?_
 clear F9 H8
 have F13:=sE H12
 go_wp2_with fail
 refine (HOF.out _ (hw.out.below H12.out.bel)).mono ?_
 rintro e w14 ⟨ta,tn,tc,rfl,hb15⟩
 clear F13
 have H16:=Lib.hid (H12.out.below hb15)
 clear hb15 H12
 have F17:=H16.out.sees
 simp only [sees,ac,aa,Nat.reduceAdd] at F17
 obtain ⟨⟨z0,c00,c01,c02,-⟩,-⟩:=F17
 go_upto_region 6 with fail
 have y18:=z0
 clear z0 c00 c01 c02
 have H19:=Lib.hid (H16.out.var w14.heap.size 65 [.bool f,.int .u8 (a:Nat),.int .i64 n1,.string ⟨t1.toArray⟩,.slice ta tn tc] rfl)
 clear H16
 generalize (w14.alloc (.cells #[.bool f,.int .u8 (a:Nat),.int .i64 n1,.string ⟨t1.toArray⟩,.slice ta tn tc] 65))=W20 at H19 ⊢
 have F21:=sE H19
 go_wp2_with fail
 exact bodyPost_ret (v:=.tuple #[.string ⟨#[]⟩,.int .i64 5]) (by simp [results,results18,go_sem]) rfl ⟨rfl,H19.out.bel⟩
theorem vS (w:World) (s:ByteArray) (hv:ao (bm 3 0 s.data.toList=0)) (hs:Hid (s.size≤4611686018427387904)) (hq:eq3 3 0 4 6 s.toList []=false) (HSH:ao (∀ w,Words w→Calls prog 39 #[.agg #[.int .u8 3,.int .i64 0,.string s]] w fun e w'=>e=.returned (.string s)∧Below w.heap.size w w')) (hw:ao (Words w)) (f:Bool) (a:Nat) (n1:Int) (t1:List UInt8) (at_ er:Int) (HOF:ao (∀ w,Words w→Calls prog 35 #[.string s] w fun e w'=>∃ ta tn tc,e=.returned (.tuple #[.agg #[.bool f,.int .u8 (a:Nat),.int .i64 n1,.string ⟨t1.toArray⟩,.slice ta tn tc],.int .i64 at_,.int .i64 er])∧Below w.heap.size w w')) (he:(er != 0)=true) (R:ByteArray) (hR:ao (R=⟨#[39]⟩++s)) (hz:s.size≤256) (hl:¬ (R.size:Int)>256) :
  Calls prog 18 #[.agg #[.int .u8 3,.int .i64 0,.string s]] w fun e w'=>e=.returned (.tuple #[.string R,.int .i64 0])∧Below w.heap.size w w':=by
 have z39:(⟨#[39]⟩:ByteArray).size=1:=rfl
 have hRz:(⟨#[39]⟩++s:ByteArray).size=R.size:=by rw [hR.out]
 have H1:=Lib.hid ((Ok.start w).alloc w.heap.size 35 [.int .u8 3,.int .i64 0,.string s] rfl)
 go_enter func18,ntmps18
 go_upto_region 1 with fail
 generalize (w.alloc (.cells #[.int .u8 3,.int .i64 0,.string s] 35))=W2 at H1 ⊢
 refine wp_region_held_drew (S:=fun W=>Ok w [ac (w.heap.size) 35 [.int .u8 3,.int .i64 0,.string s]] W) (by kernel_rfl) H1.out.drew (fun hHeld => ?_)
 refine wt3 0 ?_
 refine wal 1 fun K hK => ?_
 go_simp
 refine (aY 3 0 s hs.out _).mono ?_
 rintro e w4 ⟨rfl,hb5⟩
 rw [hv.out]
 go_wp2_with fail
 refine hK.out _ _ (hHeld.below hb5) (fun hHeld => ?_)
 clear hK K
 refine wn ?_
 refine wt3 2 ?_
 refine wt3 3 ?_
 refine wt3 4 ?_
 refine wal 5 fun K hK => ?_
 go_simp
 refine (aU 6 (by decide) (by decide) _).mono ?_
 rintro e w6 ⟨rfl,hb7⟩
 go_wp2_with fail
 refine hK.out _ _ (hHeld.below hb7) (fun hHeld => ?_)
 clear hK K
 refine wn ?_
 refine wt3 6 ?_
 refine wt3 7 ?_
 refine wpAnyH_done (by kernel_rfl) ?_ _
 clear H1
 have H8:=Lib.hid hHeld
 clear hHeld
 have F9:=sE H8
 go_wp2_with fail
 refine cM (HSH.out _ (hw.out.below H8.out.bel)) H8 fun w10 H12=>?_
 clear F9 H8
 have F13:=sE H12
 go_wp2_with fail
 refine (HOF.out _ (hw.out.below H12.out.bel)).mono ?_
 rintro e w14 ⟨ta,tn,tc,rfl,hb15⟩
 clear F13
 have H16:=Lib.hid (H12.out.below hb15)
 clear hb15 H12
 have F17:=H16.out.sees
 simp only [sees,ac,aa,Nat.reduceAdd] at F17
 obtain ⟨⟨z0,c00,c01,c02,-⟩,-⟩:=F17
 go_upto_region 6 with fail
 have y18:=z0
 clear z0 c00 c01 c02
 have H19:=Lib.hid (H16.out.var w14.heap.size 65 [.bool f,.int .u8 (a:Nat),.int .i64 n1,.string ⟨t1.toArray⟩,.slice ta tn tc] rfl)
 clear H16
 generalize (w14.alloc (.cells #[.bool f,.int .u8 (a:Nat),.int .i64 n1,.string ⟨t1.toArray⟩,.slice ta tn tc] 65))=W20 at H19 ⊢
 have F21:=sE H19
 go_wp2_with fail
 exact bodyPost_ret (v:=.tuple #[.string R,.int .i64 0]) (by simp [results,results18,go_sem,hR.out]) rfl ⟨rfl,H19.out.bel⟩
theorem sW (w:World) (s:ByteArray) (hv:ao (bm 3 0 s.data.toList=0)) (hs:Hid (s.size≤4611686018427387904)) (hq:eq3 3 0 4 6 s.toList []=false) (HSH:ao (∀ w,Words w→Calls prog 39 #[.agg #[.int .u8 3,.int .i64 0,.string s]] w fun e w'=>e=.returned (.string s)∧Below w.heap.size w w')) (hw:ao (Words w)) (f:Bool) (a:Nat) (n1:Int) (t1:List UInt8) (at_ er:Int) (HOF:ao (∀ w,Words w→Calls prog 35 #[.string s] w fun e w'=>∃ ta tn tc,e=.returned (.tuple #[.agg #[.bool f,.int .u8 (a:Nat),.int .i64 n1,.string ⟨t1.toArray⟩,.slice ta tn tc],.int .i64 at_,.int .i64 er])∧Below w.heap.size w w')) (he:er=0) (hf:f=true) (R:ByteArray) (hR:ao (R=⟨#[39]⟩++s)) (hz:s.size≤256) (hl:(R.size:Int)>256) :
  Calls prog 18 #[.agg #[.int .u8 3,.int .i64 0,.string s]] w fun e w'=>e=.returned (.tuple #[.string ⟨#[]⟩,.int .i64 5])∧Below w.heap.size w w':=by
 subst he hf
 have z39:(⟨#[39]⟩:ByteArray).size=1:=rfl
 have hRz:(⟨#[39]⟩++s:ByteArray).size=R.size:=by rw [hR.out]
 have H1:=Lib.hid ((Ok.start w).alloc w.heap.size 35 [.int .u8 3,.int .i64 0,.string s] rfl)
 go_enter func18,ntmps18
 go_upto_region 1 with fail
 generalize (w.alloc (.cells #[.int .u8 3,.int .i64 0,.string s] 35))=W2 at H1 ⊢
 refine wp_region_held_drew (S:=fun W=>Ok w [ac (w.heap.size) 35 [.int .u8 3,.int .i64 0,.string s]] W) (by kernel_rfl) H1.out.drew (fun hHeld => ?_)
 refine wt3 0 ?_
 refine wal 1 fun K hK => ?_
 go_simp
 refine (aY 3 0 s hs.out _).mono ?_
 rintro e w4 ⟨rfl,hb5⟩
 rw [hv.out]
 go_wp2_with fail
 refine hK.out _ _ (hHeld.below hb5) (fun hHeld => ?_)
 clear hK K
 refine wn ?_
 refine wt3 2 ?_
 refine wt3 3 ?_
 refine wt3 4 ?_
 refine wal 5 fun K hK => ?_
 go_simp
 refine (aU 6 (by decide) (by decide) _).mono ?_
 rintro e w6 ⟨rfl,hb7⟩
 go_wp2_with fail
 refine hK.out _ _ (hHeld.below hb7) (fun hHeld => ?_)
 clear hK K
 refine wn ?_
 refine wt3 6 ?_
 refine wt3 7 ?_
 refine wpAnyH_done (by kernel_rfl) ?_ _
 clear H1
 have H8:=Lib.hid hHeld
 clear hHeld
 have F9:=sE H8
 go_wp2_with fail
 refine cM (HSH.out _ (hw.out.below H8.out.bel)) H8 fun w10 H12=>?_
 clear F9 H8
 have F13:=sE H12
 go_wp2_with fail
 refine (HOF.out _ (hw.out.below H12.out.bel)).mono ?_
 rintro e w14 ⟨ta,tn,tc,rfl,hb15⟩
 clear F13
 have H16:=Lib.hid (H12.out.below hb15)
 clear hb15 H12
 have F17:=H16.out.sees
 simp only [sees,ac,aa,Nat.reduceAdd] at F17
 obtain ⟨⟨z0,c00,c01,c02,-⟩,-⟩:=F17
 go_upto_region 6 with fail
 have y18:=z0
 clear z0 c00 c01 c02
 have H19:=Lib.hid (H16.out.var w14.heap.size 65 [.bool true,.int .u8 (a:Nat),.int .i64 n1,.string ⟨t1.toArray⟩,.slice ta tn tc] rfl)
 clear H16
 generalize (w14.alloc (.cells #[.bool true,.int .u8 (a:Nat),.int .i64 n1,.string ⟨t1.toArray⟩,.slice ta tn tc] 65))=W20 at H19 ⊢
 have F21:=sE H19
 go_wp2_with fail
 exact bodyPost_ret (v:=.tuple #[.string ⟨#[]⟩,.int .i64 5]) (by simp [results,results18,go_sem]) rfl ⟨rfl,H19.out.bel⟩
theorem vT (w:World) (s:ByteArray) (hv:ao (bm 3 0 s.data.toList=0)) (hs:Hid (s.size≤4611686018427387904)) (hq:eq3 3 0 4 6 s.toList []=false) (HSH:ao (∀ w,Words w→Calls prog 39 #[.agg #[.int .u8 3,.int .i64 0,.string s]] w fun e w'=>e=.returned (.string s)∧Below w.heap.size w w')) (hw:ao (Words w)) (f:Bool) (a:Nat) (n1:Int) (t1:List UInt8) (at_ er:Int) (HOF:ao (∀ w,Words w→Calls prog 35 #[.string s] w fun e w'=>∃ ta tn tc,e=.returned (.tuple #[.agg #[.bool f,.int .u8 (a:Nat),.int .i64 n1,.string ⟨t1.toArray⟩,.slice ta tn tc],.int .i64 at_,.int .i64 er])∧Below w.heap.size w w')) (he:er=0) (hf:f=true) (R:ByteArray) (hR:ao (R=⟨#[39]⟩++s)) (hz:s.size≤256) (hl:¬ (R.size:Int)>256) :
  Calls prog 18 #[.agg #[.int .u8 3,.int .i64 0,.string s]] w fun e w'=>e=.returned (.tuple #[.string R,.int .i64 0])∧Below w.heap.size w w':=by
 subst he hf
 have z39:(⟨#[39]⟩:ByteArray).size=1:=rfl
 have hRz:(⟨#[39]⟩++s:ByteArray).size=R.size:=by rw [hR.out]
 have H1:=Lib.hid ((Ok.start w).alloc w.heap.size 35 [.int .u8 3,.int .i64 0,.string s] rfl)
 go_enter func18,ntmps18
 go_upto_region 1 with fail
 generalize (w.alloc (.cells #[.int .u8 3,.int .i64 0,.string s] 35))=W2 at H1 ⊢
 refine wp_region_held_drew (S:=fun W=>Ok w [ac (w.heap.size) 35 [.int .u8 3,.int .i64 0,.string s]] W) (by kernel_rfl) H1.out.drew (fun hHeld => ?_)
 refine wt3 0 ?_
 refine wal 1 fun K hK => ?_
 go_simp
 refine (aY 3 0 s hs.out _).mono ?_
 rintro e w4 ⟨rfl,hb5⟩
 rw [hv.out]
 go_wp2_with fail
 refine hK.out _ _ (hHeld.below hb5) (fun hHeld => ?_)
 clear hK K
 refine wn ?_
 refine wt3 2 ?_
 refine wt3 3 ?_
 refine wt3 4 ?_
 refine wal 5 fun K hK => ?_
 go_simp
 refine (aU 6 (by decide) (by decide) _).mono ?_
 rintro e w6 ⟨rfl,hb7⟩
 go_wp2_with fail
 refine hK.out _ _ (hHeld.below hb7) (fun hHeld => ?_)
 clear hK K
 refine wn ?_
 refine wt3 6 ?_
 refine wt3 7 ?_
 refine wpAnyH_done (by kernel_rfl) ?_ _
 clear H1
 have H8:=Lib.hid hHeld
 clear hHeld
 have F9:=sE H8
 go_wp2_with fail
 refine cM (HSH.out _ (hw.out.below H8.out.bel)) H8 fun w10 H12=>?_
 clear F9 H8
 have F13:=sE H12
 go_wp2_with fail
 refine (HOF.out _ (hw.out.below H12.out.bel)).mono ?_
 rintro e w14 ⟨ta,tn,tc,rfl,hb15⟩
 clear F13
 have H16:=Lib.hid (H12.out.below hb15)
 clear hb15 H12
 have F17:=H16.out.sees
 simp only [sees,ac,aa,Nat.reduceAdd] at F17
 obtain ⟨⟨z0,c00,c01,c02,-⟩,-⟩:=F17
 go_upto_region 6 with fail
 have y18:=z0
 clear z0 c00 c01 c02
 have H19:=Lib.hid (H16.out.var w14.heap.size 65 [.bool true,.int .u8 (a:Nat),.int .i64 n1,.string ⟨t1.toArray⟩,.slice ta tn tc] rfl)
 clear H16
 generalize (w14.alloc (.cells #[.bool true,.int .u8 (a:Nat),.int .i64 n1,.string ⟨t1.toArray⟩,.slice ta tn tc] 65))=W20 at H19 ⊢
 have F21:=sE H19
 go_wp2_with fail
 exact bodyPost_ret (v:=.tuple #[.string R,.int .i64 0]) (by simp [results,results18,go_sem,hR.out]) rfl ⟨rfl,H19.out.bel⟩
theorem sX (w:World) (s:ByteArray) (hv:ao (bm 3 0 s.data.toList=0)) (hs:Hid (s.size≤4611686018427387904)) (hq:eq3 3 0 4 6 s.toList []=false) (HSH:ao (∀ w,Words w→Calls prog 39 #[.agg #[.int .u8 3,.int .i64 0,.string s]] w fun e w'=>e=.returned (.string s)∧Below w.heap.size w w')) (hw:ao (Words w)) (f:Bool) (a:Nat) (n1:Int) (t1:List UInt8) (at_ er:Int) (HOF:ao (∀ w,Words w→Calls prog 35 #[.string s] w fun e w'=>∃ ta tn tc,e=.returned (.tuple #[.agg #[.bool f,.int .u8 (a:Nat),.int .i64 n1,.string ⟨t1.toArray⟩,.slice ta tn tc],.int .i64 at_,.int .i64 er])∧Below w.heap.size w w')) (he:er=0) (hf:f=false) (hq3:eq3 (a:Nat) n1 3 0 t1 s.toList=false) (R:ByteArray) (hR:ao (R=⟨#[39]⟩++s)) (hz:s.size≤256) (hl:(R.size:Int)>256) :
  Calls prog 18 #[.agg #[.int .u8 3,.int .i64 0,.string s]] w fun e w'=>e=.returned (.tuple #[.string ⟨#[]⟩,.int .i64 5])∧Below w.heap.size w w':=by
 subst he hf
 have z39:(⟨#[39]⟩:ByteArray).size=1:=rfl
 have hRz:(⟨#[39]⟩++s:ByteArray).size=R.size:=by rw [hR.out]
 have H1:=Lib.hid ((Ok.start w).alloc w.heap.size 35 [.int .u8 3,.int .i64 0,.string s] rfl)
 go_enter func18,ntmps18
 go_upto_region 1 with fail
 generalize (w.alloc (.cells #[.int .u8 3,.int .i64 0,.string s] 35))=W2 at H1 ⊢
 refine wp_region_held_drew (S:=fun W=>Ok w [ac (w.heap.size) 35 [.int .u8 3,.int .i64 0,.string s]] W) (by kernel_rfl) H1.out.drew (fun hHeld => ?_)
 refine wt3 0 ?_
 refine wal 1 fun K hK => ?_
 go_simp
 refine (aY 3 0 s hs.out _).mono ?_
 rintro e w4 ⟨rfl,hb5⟩
 rw [hv.out]
 go_wp2_with fail
 refine hK.out _ _ (hHeld.below hb5) (fun hHeld => ?_)
 clear hK K
 refine wn ?_
 refine wt3 2 ?_
 refine wt3 3 ?_
 refine wt3 4 ?_
 refine wal 5 fun K hK => ?_
 go_simp
 refine (aU 6 (by decide) (by decide) _).mono ?_
 rintro e w6 ⟨rfl,hb7⟩
 go_wp2_with fail
 refine hK.out _ _ (hHeld.below hb7) (fun hHeld => ?_)
 clear hK K
 refine wn ?_
 refine wt3 6 ?_
 refine wt3 7 ?_
 refine wpAnyH_done (by kernel_rfl) ?_ _
 clear H1
 have H8:=Lib.hid hHeld
 clear hHeld
 have F9:=sE H8
 go_wp2_with fail
 refine cM (HSH.out _ (hw.out.below H8.out.bel)) H8 fun w10 H12=>?_
 clear F9 H8
 have F13:=sE H12
 go_wp2_with fail
 refine (HOF.out _ (hw.out.below H12.out.bel)).mono ?_
 rintro e w14 ⟨ta,tn,tc,rfl,hb15⟩
 clear F13
 have H16:=Lib.hid (H12.out.below hb15)
 clear hb15 H12
 have F17:=H16.out.sees
 simp only [sees,ac,aa,Nat.reduceAdd] at F17
 obtain ⟨⟨z0,c00,c01,c02,-⟩,-⟩:=F17
 go_upto_region 6 with fail
 have y18:=z0
 clear z0 c00 c01 c02
 have H19:=Lib.hid (H16.out.var w14.heap.size 65 [.bool false,.int .u8 (a:Nat),.int .i64 n1,.string ⟨t1.toArray⟩,.slice ta tn tc] rfl)
 clear H16
 generalize (w14.alloc (.cells #[.bool false,.int .u8 (a:Nat),.int .i64 n1,.string ⟨t1.toArray⟩,.slice ta tn tc] 65))=W20 at H19 ⊢
 have F21:=sE H19
 go_wp2_with fail
 exact bodyPost_ret (v:=.tuple #[.string ⟨#[]⟩,.int .i64 5]) (by simp [results,results18,go_sem]) rfl ⟨rfl,H19.out.bel⟩
theorem vV (w:World) (s:ByteArray) (hv:ao (bm 3 0 s.data.toList=0)) (hs:Hid (s.size≤4611686018427387904)) (hq:eq3 3 0 4 6 s.toList []=false) (HSH:ao (∀ w,Words w→Calls prog 39 #[.agg #[.int .u8 3,.int .i64 0,.string s]] w fun e w'=>e=.returned (.string s)∧Below w.heap.size w w')) (hw:ao (Words w)) (f:Bool) (a:Nat) (n1:Int) (t1:List UInt8) (at_ er:Int) (HOF:ao (∀ w,Words w→Calls prog 35 #[.string s] w fun e w'=>∃ ta tn tc,e=.returned (.tuple #[.agg #[.bool f,.int .u8 (a:Nat),.int .i64 n1,.string ⟨t1.toArray⟩,.slice ta tn tc],.int .i64 at_,.int .i64 er])∧Below w.heap.size w w')) (he:er=0) (hf:f=false) (hq3:eq3 (a:Nat) n1 3 0 t1 s.toList=false) (R:ByteArray) (hR:ao (R=⟨#[39]⟩++s)) (hz:s.size≤256) (hl:¬ (R.size:Int)>256) :
  Calls prog 18 #[.agg #[.int .u8 3,.int .i64 0,.string s]] w fun e w'=>e=.returned (.tuple #[.string R,.int .i64 0])∧Below w.heap.size w w':=by
 subst he hf
 have z39:(⟨#[39]⟩:ByteArray).size=1:=rfl
 have hRz:(⟨#[39]⟩++s:ByteArray).size=R.size:=by rw [hR.out]
 have H1:=Lib.hid ((Ok.start w).alloc w.heap.size 35 [.int .u8 3,.int .i64 0,.string s] rfl)
 go_enter func18,ntmps18
 go_upto_region 1 with fail
 generalize (w.alloc (.cells #[.int .u8 3,.int .i64 0,.string s] 35))=W2 at H1 ⊢
 refine wp_region_held_drew (S:=fun W=>Ok w [ac (w.heap.size) 35 [.int .u8 3,.int .i64 0,.string s]] W) (by kernel_rfl) H1.out.drew (fun hHeld => ?_)
 refine wt3 0 ?_
 refine wal 1 fun K hK => ?_
 go_simp
 refine (aY 3 0 s hs.out _).mono ?_
 rintro e w4 ⟨rfl,hb5⟩
 rw [hv.out]
 go_wp2_with fail
 refine hK.out _ _ (hHeld.below hb5) (fun hHeld => ?_)
 clear hK K
 refine wn ?_
 refine wt3 2 ?_
 refine wt3 3 ?_
 refine wt3 4 ?_
 refine wal 5 fun K hK => ?_
 go_simp
 refine (aU 6 (by decide) (by decide) _).mono ?_
 rintro e w6 ⟨rfl,hb7⟩
 go_wp2_with fail
 refine hK.out _ _ (hHeld.below hb7) (fun hHeld => ?_)
 clear hK K
 refine wn ?_
 refine wt3 6 ?_
 refine wt3 7 ?_
 refine wpAnyH_done (by kernel_rfl) ?_ _
 clear H1
 have H8:=Lib.hid hHeld
 clear hHeld
 have F9:=sE H8
 go_wp2_with fail
 refine cM (HSH.out _ (hw.out.below H8.out.bel)) H8 fun w10 H12=>?_
 clear F9 H8
 have F13:=sE H12
 go_wp2_with fail
 refine (HOF.out _ (hw.out.below H12.out.bel)).mono ?_
 rintro e w14 ⟨ta,tn,tc,rfl,hb15⟩
 clear F13
 have H16:=Lib.hid (H12.out.below hb15)
 clear hb15 H12
 have F17:=H16.out.sees
 simp only [sees,ac,aa,Nat.reduceAdd] at F17
 obtain ⟨⟨z0,c00,c01,c02,-⟩,-⟩:=F17
 go_upto_region 6 with fail
 have y18:=z0
 clear z0 c00 c01 c02
 have H19:=Lib.hid (H16.out.var w14.heap.size 65 [.bool false,.int .u8 (a:Nat),.int .i64 n1,.string ⟨t1.toArray⟩,.slice ta tn tc] rfl)
 clear H16
 generalize (w14.alloc (.cells #[.bool false,.int .u8 (a:Nat),.int .i64 n1,.string ⟨t1.toArray⟩,.slice ta tn tc] 65))=W20 at H19 ⊢
 have F21:=sE H19
 go_wp2_with fail
 exact bodyPost_ret (v:=.tuple #[.string R,.int .i64 0]) (by simp [results,results18,go_sem,hR.out]) rfl ⟨rfl,H19.out.bel⟩
theorem vU (w:World) (s:ByteArray) (hv:ao (bm 3 0 s.data.toList=0)) (hs:Hid (s.size≤4611686018427387904)) (hq:eq3 3 0 4 6 s.toList []=false) (HSH:ao (∀ w,Words w→Calls prog 39 #[.agg #[.int .u8 3,.int .i64 0,.string s]] w fun e w'=>e=.returned (.string s)∧Below w.heap.size w w')) (hw:ao (Words w)) (f:Bool) (a:Nat) (n1:Int) (t1:List UInt8) (at_ er:Int) (HOF:ao (∀ w,Words w→Calls prog 35 #[.string s] w fun e w'=>∃ ta tn tc,e=.returned (.tuple #[.agg #[.bool f,.int .u8 (a:Nat),.int .i64 n1,.string ⟨t1.toArray⟩,.slice ta tn tc],.int .i64 at_,.int .i64 er])∧Below w.heap.size w w')) (he:er=0) (hf:f=false) (hq3:eq3 (a:Nat) n1 3 0 t1 s.toList=true)  (hl:¬ (s.size:Int)>256) :
  Calls prog 18 #[.agg #[.int .u8 3,.int .i64 0,.string s]] w fun e w'=>e=.returned (.tuple #[.string s,.int .i64 0])∧Below w.heap.size w w':=by
 subst he hf
 have H1:=Lib.hid ((Ok.start w).alloc w.heap.size 35 [.int .u8 3,.int .i64 0,.string s] rfl)
 go_enter func18,ntmps18
 go_upto_region 1 with fail
 generalize (w.alloc (.cells #[.int .u8 3,.int .i64 0,.string s] 35))=W2 at H1 ⊢
 refine wp_region_held_drew (S:=fun W=>Ok w [ac (w.heap.size) 35 [.int .u8 3,.int .i64 0,.string s]] W) (by kernel_rfl) H1.out.drew (fun hHeld => ?_)
 refine wt3 0 ?_
 refine wal 1 fun K hK => ?_
 go_simp
 refine (aY 3 0 s hs.out _).mono ?_
 rintro e w4 ⟨rfl,hb5⟩
 rw [hv.out]
 go_wp2_with fail
 refine hK.out _ _ (hHeld.below hb5) (fun hHeld => ?_)
 clear hK K
 refine wn ?_
 refine wt3 2 ?_
 refine wt3 3 ?_
 refine wt3 4 ?_
 refine wal 5 fun K hK => ?_
 go_simp
 refine (aU 6 (by decide) (by decide) _).mono ?_
 rintro e w6 ⟨rfl,hb7⟩
 go_wp2_with fail
 refine hK.out _ _ (hHeld.below hb7) (fun hHeld => ?_)
 clear hK K
 refine wn ?_
 refine wt3 6 ?_
 refine wt3 7 ?_
 refine wpAnyH_done (by kernel_rfl) ?_ _
 clear H1
 have H8:=Lib.hid hHeld
 clear hHeld
 have F9:=sE H8
 go_wp2_with fail
 refine cM (HSH.out _ (hw.out.below H8.out.bel)) H8 fun w10 H12=>?_
 clear F9 H8
 have F13:=sE H12
 go_wp2_with fail
 refine (HOF.out _ (hw.out.below H12.out.bel)).mono ?_
 rintro e w14 ⟨ta,tn,tc,rfl,hb15⟩
 clear F13
 have H16:=Lib.hid (H12.out.below hb15)
 clear hb15 H12
 have F17:=H16.out.sees
 simp only [sees,ac,aa,Nat.reduceAdd] at F17
 obtain ⟨⟨z0,c00,c01,c02,-⟩,-⟩:=F17
 go_upto_region 6 with fail
 have y18:=z0
 clear z0 c00 c01 c02
 have H19:=Lib.hid (H16.out.var w14.heap.size 65 [.bool false,.int .u8 (a:Nat),.int .i64 n1,.string ⟨t1.toArray⟩,.slice ta tn tc] rfl)
 clear H16
 generalize (w14.alloc (.cells #[.bool false,.int .u8 (a:Nat),.int .i64 n1,.string ⟨t1.toArray⟩,.slice ta tn tc] 65))=W20 at H19 ⊢
 have F21:=sE H19
 go_wp2_with fail
 exact bodyPost_ret (v:=.tuple #[.string s,.int .i64 0]) (by simp [results,results18,go_sem]) rfl ⟨rfl,H19.out.bel⟩
