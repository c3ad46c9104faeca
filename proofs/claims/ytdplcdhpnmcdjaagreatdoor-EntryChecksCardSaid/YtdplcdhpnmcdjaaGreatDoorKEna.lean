/- The closures of entry.constant. -/
import Derived.Test.YtdplcdhpnmcdjaaGreatDoorKRqD
import Derived.Test.YtdplcdhpnmcdjaaGreatDoorKTg
import Derived.Test.YtdplcdhpnmcdjaaGreatDoorKLexG
import Derived.Test.YtdplcdhpnmcdjaaGreatDoorKShelf
namespace Go.Proofs.YtdplcdhpnmcdjaaGreatDoor
set_option maxRecDepth 100000
set_option maxHeartbeats 4000000
open Go.RowKit Go.Proofs.Tryz
theorem pX (w:World) :
  Calls prog 38 #[.int .i64 0] w fun e w'=>e=.returned (.agg #[.int .u8 4,.int .i64 2,.string ⟨#[]⟩])∧Below w.heap.size w w':=by
 have H1:=Lib.hid ((Ok.start w).var w.heap.size 35 [.int .u8 4,.int .i64 2,.string ⟨#[]⟩] rfl)
 go_enter func38,ntmps38
 go_wp2_with fail
 generalize (w.alloc (.cells #[.int .u8 4,.int .i64 2,.string ⟨#[]⟩] 35))=W2 at H1 ⊢
 have F3:=H1.out.sees
 simp only [sees,af,aa,Nat.reduceAdd] at F3
 obtain ⟨⟨⟨z0,fz0⟩,c00,c01,c02,-⟩,-⟩:=F3
 exact bodyPost_ret (v:=.agg #[.int .u8 4,.int .i64 2,.string ⟨#[]⟩]) (by simp [results,results38,go_sem,c00,c01,c02]) rfl ⟨rfl,H1.out.bel⟩
def cK (b:Nat) (s:ByteArray) (w:World):Prop:=b<w.heap.size∧ag w b 0 0 [.string s]
theorem cK.below {b:Nat} {s:ByteArray} {w w':World} (h:cK b s w) (hb:Below w.heap.size w w'):cK b s w' :=
 ⟨Nat.lt_of_lt_of_le h.1 hb.size,(hb.cell h.1).trans h.2.1,trivial⟩
theorem xL (b:Nat) (w:World) (hin:cK b ⟨#[]⟩ w) :
  Calls prog 116 #[.pointer (some ⟨b,0,none⟩)] w fun e w'=>e=.returned (.tuple #[.agg #[.int .u8 0,.int .i64 0,.string ⟨#[]⟩],.bool true])∧Below w.heap.size w w':=by
 have hbl:=hin.1
 have H0:=Lib.hid (((Ok.start w).add (ae b 0 [.string ⟨#[]⟩]) hin).var w.heap.size 35 [.int .u8 0,.int .i64 0,.string ⟨#[]⟩] rfl)
 clear hin
 go_enter func116,ntmps116
 go_upto_region 1 with fail
 generalize (w.alloc (.cells #[.int .u8 0,.int .i64 0,.string ⟨#[]⟩] 35))=W1 at H0 ⊢
 have F2:=sE H0
 go_region
 go_wp2_with fail
 have hfar:∀ x∈[ae b 0 [.string ⟨#[]⟩]],x.far (some w.heap.size):=by
  intro x hx
  simp only [List.mem_cons,List.not_mem_nil,or_false] at hx
  subst hx
  show some b≠some w.heap.size
  intro h
  injection h
  omega
 have HE:=Lib.hid (((H0.out.set_ (i:=0) (u:=.int .u8 0) (by omega) hfar).set_ (i:=1) (u:=.int .i64 0) (by omega) hfar).set_ (i:=2) (u:=.string ⟨#[]⟩) (by omega) hfar).drew
 have F9:=HE.out.sees
 simp only [sees,af,ae,ag,Nat.add_zero,aa,Nat.reduceAdd,List.set_cons_succ,List.set_cons_zero] at F9
 obtain ⟨⟨⟨y0,g0⟩,r0,r1,r2,-⟩,-⟩:=F9
 exact bodyPost_ret (v:=.tuple #[.agg #[.int .u8 0,.int .i64 0,.string ⟨#[]⟩],.bool true]) (by simp [results,results116,go_sem,r0,r1,r2]) rfl ⟨rfl,HE.out.bel⟩
theorem xK (s:ByteArray) (b:Nat) (hs:s.toList.isEmpty=false) (w:World) (hin:cK b s w) :
  Calls prog 116 #[.pointer (some ⟨b,0,none⟩)] w fun e w'=>e=.returned (.tuple #[.agg #[.int .u8 0,.int .i64 0,.string ⟨#[]⟩],.bool false])∧Below w.heap.size w w':=by
 have hbl:=hin.1
 have H0:=Lib.hid (((Ok.start w).add (ae b 0 [.string s]) hin).var w.heap.size 35 [.int .u8 0,.int .i64 0,.string ⟨#[]⟩] rfl)
 clear hin
 go_enter func116,ntmps116
 go_upto_region 1 with fail
 generalize (w.alloc (.cells #[.int .u8 0,.int .i64 0,.string ⟨#[]⟩] 35))=W1 at H0 ⊢
 have F2:=sE H0
 go_region
 go_wp2_with fail
 have hfar:∀ x∈[ae b 0 [.string s]],x.far (some w.heap.size):=by
  intro x hx
  simp only [List.mem_cons,List.not_mem_nil,or_false] at hx
  subst hx
  show some b≠some w.heap.size
  intro h
  injection h
  omega
 have HE:=Lib.hid (((H0.out.set_ (i:=0) (u:=.int .u8 0) (by omega) hfar).set_ (i:=1) (u:=.int .i64 0) (by omega) hfar).set_ (i:=2) (u:=.string ⟨#[]⟩) (by omega) hfar).drew
 have F9:=HE.out.sees
 simp only [sees,af,ae,ag,Nat.add_zero,aa,Nat.reduceAdd,List.set_cons_succ,List.set_cons_zero] at F9
 obtain ⟨⟨⟨y0,g0⟩,r0,r1,r2,-⟩,-⟩:=F9
 exact bodyPost_ret (v:=.tuple #[.agg #[.int .u8 0,.int .i64 0,.string ⟨#[]⟩],.bool false]) (by simp [results,results116,go_sem,r0,r1,r2]) rfl ⟨rfl,HE.out.bel⟩
theorem cl2 (s:ByteArray) (b:Nat) (X:ByteArray) (B:Bool) (hX:(⟨(Lib.trimPrefix s.data.toList [39]).toArray⟩:ByteArray)=X) (hB:Lib.hasPrefix s.data.toList [39]=B) (w:World) (hin:cK b s w) :
  Calls prog 117 #[.pointer (some ⟨b,0,none⟩)] w fun e w'=>e=.returned (.tuple #[.agg #[.int .u8 3,.int .i64 0,.string X],.bool B])∧Below w.heap.size w w':=by
 have HX:=keep hX
 have HB:=keep hB
 clear hX hB
 have hbl:=hin.1
 have H0:=Lib.hid (((Ok.start w).add (ae b 0 [.string s]) hin).var w.heap.size 35 [.int .u8 0,.int .i64 0,.string ⟨#[]⟩] rfl)
 clear hin
 go_enter func117,ntmps117
 go_upto_region 1 with fail
 generalize (w.alloc (.cells #[.int .u8 0,.int .i64 0,.string ⟨#[]⟩] 35))=W1 at H0 ⊢
 have F2:=sE H0
 go_wp2_with fail
 refine (Tryz.strings_CutPrefix s ⟨#[39]⟩ _).mono ?_
 rintro e w9 ⟨rfl,hw9⟩
 obtain rfl:W1=w9:=hw9.symm
 have hX:(⟨(Lib.trimPrefix s.data.toList (⟨#[39]⟩:ByteArray).data.toList).toArray⟩:ByteArray)=X:=HX.out
 have hB:Lib.hasPrefix s.data.toList (⟨#[39]⟩:ByteArray).data.toList=B:=HB.out
 rw [hX,hB]
 clear hX hB
 go_wp2_with fail
 have hfar:∀ x∈[ae b 0 [.string s]],x.far (some w.heap.size):=by
  intro x hx
  simp only [List.mem_cons,List.not_mem_nil,or_false] at hx
  subst hx
  show some b≠some w.heap.size
  intro h
  injection h
  omega
 have HE:=Lib.hid (((H0.out.set_ (i:=0) (u:=.int .u8 3) (by omega) hfar).set_ (i:=1) (u:=.int .i64 0) (by omega) hfar).set_ (i:=2) (u:=.string X) (by omega) hfar)
 have F9:=HE.out.sees
 simp only [sees,af,ae,ag,Nat.add_zero,aa,Nat.reduceAdd,List.set_cons_succ,List.set_cons_zero] at F9
 obtain ⟨⟨⟨y0,g0⟩,r0,r1,r2,-⟩,-⟩:=F9
 exact bodyPost_ret (v:=.tuple #[.agg #[.int .u8 3,.int .i64 0,.string X],.bool B]) (by simp [results,results117,go_sem,r0,r1,r2]) rfl ⟨rfl,HE.out.bel⟩
theorem xO (s:ByteArray) (b:Nat) (HT:ao (∀ w,Calls prog 119 #[.agg #[.int .u8 3,.int .i64 0,.string s]] w fun e w'=>e=.returned (.agg #[.int .u8 2,.int .i64 1,.string ⟨#[]⟩])∧Below w.heap.size w w')) (w:World) (hin:cK b s w) :
  Calls prog 118 #[.pointer (some ⟨b,0,none⟩)] w fun e w'=>e=.returned (.tuple #[.agg #[.int .u8 2,.int .i64 1,.string ⟨#[]⟩],.bool true])∧Below w.heap.size w w':=by
 have hbl:=hin.1
 have H0:=Lib.hid (((Ok.start w).add (ae b 0 [.string s]) hin).var w.heap.size 35 [.int .u8 0,.int .i64 0,.string ⟨#[]⟩] rfl)
 clear hin
 go_enter func118,ntmps118
 go_upto_region 1 with fail
 generalize (w.alloc (.cells #[.int .u8 0,.int .i64 0,.string ⟨#[]⟩] 35))=W1 at H0 ⊢
 have F2:=sE H0
 go_wp2_with fail
 refine cM (HT.out _) H0 fun w3 H5=>?_
 clear F2 H0
 have F6:=H5.out.sees
 simp only [sees,af,ae,ag,Nat.add_zero,aa,Nat.reduceAdd] at F6
 obtain ⟨⟨⟨z0,fz0⟩,c00,c01,c02,-⟩,⟨z1,c10,-⟩,-⟩:=F6
 have hsz:=Lib.hid (show w.heap.size<w3.heap.size from z0)
 go_upto_region 2 with fail
 have y7:=z0
 have y8:=z1
 clear z0 fz0 c00 c01 c02 z1 c10
 have H9:=Lib.hid (H5.out.var w3.heap.size 35 [.int .u8 2,.int .i64 1,.string ⟨#[]⟩] rfl)
 clear H5
 generalize (w3.alloc (.cells #[.int .u8 2,.int .i64 1,.string ⟨#[]⟩] 35))=W10 at H9 ⊢
 have F11:=sE H9
 go_region
 go_wp2_with fail
 have H12:=Lib.hid (H9.out.drop [af (w.heap.size) 35 [.int .u8 0,.int .i64 0,.string ⟨#[]⟩],af (w3.heap.size) 35 [.int .u8 2,.int .i64 1,.string ⟨#[]⟩],ae b 0 [.string s]] (by simp))
 have hfar:∀ x∈[af (w3.heap.size) 35 [.int .u8 2,.int .i64 1,.string ⟨#[]⟩],ae b 0 [.string s]],x.far (some w.heap.size):=by
  intro x hx
  simp only [List.mem_cons,List.not_mem_nil,or_false] at hx
  rcases hx with rfl | rfl
  ·show some _≠some w.heap.size
   intro h
   injection h with h
   have:=hsz.out
   omega
  show some b≠some w.heap.size
  intro h
  injection h
  omega
 have HE:=Lib.hid (((H12.out.set_ (i:=0) (u:=.int .u8 2) (by omega) hfar).set_ (i:=1) (u:=.int .i64 1) (by omega) hfar).set_ (i:=2) (u:=.string ⟨#[]⟩) (by omega) hfar).drew
 have F9:=HE.out.sees
 simp only [sees,af,ae,ag,Nat.add_zero,aa,Nat.reduceAdd,List.set_cons_succ,List.set_cons_zero] at F9
 obtain ⟨⟨⟨y0,g0⟩,r0,r1,r2,-⟩,-⟩:=F9
 exact bodyPost_ret (v:=.tuple #[.agg #[.int .u8 2,.int .i64 1,.string ⟨#[]⟩],.bool true]) (by simp [results,results118,go_sem,r0,r1,r2]) rfl ⟨rfl,HE.out.bel⟩
theorem xM (s:ByteArray) (b:Nat) (HT:ao (∀ w,Calls prog 119 #[.agg #[.int .u8 3,.int .i64 0,.string s]] w fun e w'=>e=.returned (.agg #[.int .u8 2,.int .i64 0,.string ⟨#[]⟩])∧Below w.heap.size w w')) (w:World) (hin:cK b s w) :
  Calls prog 118 #[.pointer (some ⟨b,0,none⟩)] w fun e w'=>e=.returned (.tuple #[.agg #[.int .u8 2,.int .i64 0,.string ⟨#[]⟩],.bool true])∧Below w.heap.size w w':=by
 have hbl:=hin.1
 have H0:=Lib.hid (((Ok.start w).add (ae b 0 [.string s]) hin).var w.heap.size 35 [.int .u8 0,.int .i64 0,.string ⟨#[]⟩] rfl)
 clear hin
 go_enter func118,ntmps118
 go_upto_region 1 with fail
 generalize (w.alloc (.cells #[.int .u8 0,.int .i64 0,.string ⟨#[]⟩] 35))=W1 at H0 ⊢
 have F2:=sE H0
 go_wp2_with fail
 refine cM (HT.out _) H0 fun w3 H5=>?_
 clear F2 H0
 have F6:=H5.out.sees
 simp only [sees,af,ae,ag,Nat.add_zero,aa,Nat.reduceAdd] at F6
 obtain ⟨⟨⟨z0,fz0⟩,c00,c01,c02,-⟩,⟨z1,c10,-⟩,-⟩:=F6
 have hsz:=Lib.hid (show w.heap.size<w3.heap.size from z0)
 go_upto_region 2 with fail
 have y7:=z0
 have y8:=z1
 clear z0 fz0 c00 c01 c02 z1 c10
 have H9:=Lib.hid (H5.out.var w3.heap.size 35 [.int .u8 2,.int .i64 0,.string ⟨#[]⟩] rfl)
 clear H5
 generalize (w3.alloc (.cells #[.int .u8 2,.int .i64 0,.string ⟨#[]⟩] 35))=W10 at H9 ⊢
 have F11:=sE H9
 go_region
 go_wp2_with fail
 have H12:=Lib.hid (H9.out.drop [af (w.heap.size) 35 [.int .u8 0,.int .i64 0,.string ⟨#[]⟩],af (w3.heap.size) 35 [.int .u8 2,.int .i64 0,.string ⟨#[]⟩],ae b 0 [.string s]] (by simp))
 have hfar:∀ x∈[af (w3.heap.size) 35 [.int .u8 2,.int .i64 0,.string ⟨#[]⟩],ae b 0 [.string s]],x.far (some w.heap.size):=by
  intro x hx
  simp only [List.mem_cons,List.not_mem_nil,or_false] at hx
  rcases hx with rfl | rfl
  ·show some _≠some w.heap.size
   intro h
   injection h with h
   have:=hsz.out
   omega
  show some b≠some w.heap.size
  intro h
  injection h
  omega
 have HE:=Lib.hid (((H12.out.set_ (i:=0) (u:=.int .u8 2) (by omega) hfar).set_ (i:=1) (u:=.int .i64 0) (by omega) hfar).set_ (i:=2) (u:=.string ⟨#[]⟩) (by omega) hfar).drew
 have F9:=HE.out.sees
 simp only [sees,af,ae,ag,Nat.add_zero,aa,Nat.reduceAdd,List.set_cons_succ,List.set_cons_zero] at F9
 obtain ⟨⟨⟨y0,g0⟩,r0,r1,r2,-⟩,-⟩:=F9
 exact bodyPost_ret (v:=.tuple #[.agg #[.int .u8 2,.int .i64 0,.string ⟨#[]⟩],.bool true]) (by simp [results,results118,go_sem,r0,r1,r2]) rfl ⟨rfl,HE.out.bel⟩
theorem xN (s:ByteArray) (b:Nat) (HT:ao (∀ w,Calls prog 119 #[.agg #[.int .u8 3,.int .i64 0,.string s]] w fun e w'=>e=.returned (.agg #[.int .u8 4,.int .i64 2,.string ⟨#[]⟩])∧Below w.heap.size w w')) (w:World) (hin:cK b s w) :
  Calls prog 118 #[.pointer (some ⟨b,0,none⟩)] w fun e w'=>e=.returned (.tuple #[.agg #[.int .u8 4,.int .i64 2,.string ⟨#[]⟩],.bool false])∧Below w.heap.size w w':=by
 have hbl:=hin.1
 have H0:=Lib.hid (((Ok.start w).add (ae b 0 [.string s]) hin).var w.heap.size 35 [.int .u8 0,.int .i64 0,.string ⟨#[]⟩] rfl)
 clear hin
 go_enter func118,ntmps118
 go_upto_region 1 with fail
 generalize (w.alloc (.cells #[.int .u8 0,.int .i64 0,.string ⟨#[]⟩] 35))=W1 at H0 ⊢
 have F2:=sE H0
 go_wp2_with fail
 refine cM (HT.out _) H0 fun w3 H5=>?_
 clear F2 H0
 have F6:=H5.out.sees
 simp only [sees,af,ae,ag,Nat.add_zero,aa,Nat.reduceAdd] at F6
 obtain ⟨⟨⟨z0,fz0⟩,c00,c01,c02,-⟩,⟨z1,c10,-⟩,-⟩:=F6
 have hsz:=Lib.hid (show w.heap.size<w3.heap.size from z0)
 go_upto_region 2 with fail
 have y7:=z0
 have y8:=z1
 clear z0 fz0 c00 c01 c02 z1 c10
 have H9:=Lib.hid (H5.out.var w3.heap.size 35 [.int .u8 4,.int .i64 2,.string ⟨#[]⟩] rfl)
 clear H5
 generalize (w3.alloc (.cells #[.int .u8 4,.int .i64 2,.string ⟨#[]⟩] 35))=W10 at H9 ⊢
 have F11:=sE H9
 go_region
 go_wp2_with fail
 have H12:=Lib.hid (H9.out.drop [af (w.heap.size) 35 [.int .u8 0,.int .i64 0,.string ⟨#[]⟩],af (w3.heap.size) 35 [.int .u8 4,.int .i64 2,.string ⟨#[]⟩],ae b 0 [.string s]] (by simp))
 have hfar:∀ x∈[af (w3.heap.size) 35 [.int .u8 4,.int .i64 2,.string ⟨#[]⟩],ae b 0 [.string s]],x.far (some w.heap.size):=by
  intro x hx
  simp only [List.mem_cons,List.not_mem_nil,or_false] at hx
  rcases hx with rfl | rfl
  ·show some _≠some w.heap.size
   intro h
   injection h with h
   have:=hsz.out
   omega
  show some b≠some w.heap.size
  intro h
  injection h
  omega
 have HE:=Lib.hid (((H12.out.set_ (i:=0) (u:=.int .u8 4) (by omega) hfar).set_ (i:=1) (u:=.int .i64 2) (by omega) hfar).set_ (i:=2) (u:=.string ⟨#[]⟩) (by omega) hfar).drew
 have F9:=HE.out.sees
 simp only [sees,af,ae,ag,Nat.add_zero,aa,Nat.reduceAdd,List.set_cons_succ,List.set_cons_zero] at F9
 obtain ⟨⟨⟨y0,g0⟩,r0,r1,r2,-⟩,-⟩:=F9
 exact bodyPost_ret (v:=.tuple #[.agg #[.int .u8 4,.int .i64 2,.string ⟨#[]⟩],.bool false]) (by simp [results,results118,go_sem,r0,r1,r2]) rfl ⟨rfl,HE.out.bel⟩
theorem xP (s:ByteArray) (b:Nat) (HT:ao (∀ w,Words w→Calls prog 121 #[.string s] w fun e w'=>e=.returned (.tuple #[.int .i64 0,.int .i64 4])∧Below w.heap.size w w')) (w:World) (hin:cK b s w) (hw:ao (Words w)) :
  Calls prog 120 #[.pointer (some ⟨b,0,none⟩)] w fun e w'=>e=.returned (.tuple #[.agg #[.int .u8 4,.int .i64 2,.string ⟨#[]⟩],.bool false])∧Below w.heap.size w w':=by
 have hbl:=hin.1
 have H0:=Lib.hid (((Ok.start w).add (ae b 0 [.string s]) hin).var w.heap.size 35 [.int .u8 0,.int .i64 0,.string ⟨#[]⟩] rfl)
 clear hin
 go_enter func120,ntmps120
 go_upto_region 1 with fail
 generalize (w.alloc (.cells #[.int .u8 0,.int .i64 0,.string ⟨#[]⟩] 35))=W1 at H0 ⊢
 have F2:=sE H0
 go_wp2_with fail
 refine cM (HT.out _ (hw.out.below H0.out.bel)) H0 fun w3 H5=>?_
 clear F2 H0
 have F6:=sE H5
 go_wp2_with fail
 refine cM (pX _) H5 fun w7 H9=>?_
 clear F6 H5
 have F10:=sE H9
 go_wp2_with fail
 have hfar:∀ x∈[ae b 0 [.string s]],x.far (some w.heap.size):=by
  intro x hx
  simp only [List.mem_cons,List.not_mem_nil,or_false] at hx
  subst hx
  show some b≠some w.heap.size
  intro h
  injection h
  omega
 have HE:=Lib.hid (((H9.out.set_ (i:=0) (u:=.int .u8 4) (by omega) hfar).set_ (i:=1) (u:=.int .i64 2) (by omega) hfar).set_ (i:=2) (u:=.string ⟨#[]⟩) (by omega) hfar)
 have F9:=HE.out.sees
 simp only [sees,af,ae,ag,Nat.add_zero,aa,Nat.reduceAdd,List.set_cons_succ,List.set_cons_zero] at F9
 obtain ⟨⟨⟨y0,g0⟩,r0,r1,r2,-⟩,-⟩:=F9
 exact bodyPost_ret (v:=.tuple #[.agg #[.int .u8 4,.int .i64 2,.string ⟨#[]⟩],.bool false]) (by simp [results,results120,go_sem,r0,r1,r2]) rfl ⟨rfl,HE.out.bel⟩
theorem xQ (s:ByteArray) (b:Nat) (c:Int) (h1:1≤c) (h7:c≤7) (B:Bool) (hB:decide (c≤5)=B) (HT:ao (∀ w,Words w→Calls prog 121 #[.string s] w fun e w'=>e=.returned (.tuple #[.int .i64 c,.int .i64 0])∧Below w.heap.size w w')) (w:World) (hin:cK b s w) (hw:ao (Words w)) :
  Calls prog 120 #[.pointer (some ⟨b,0,none⟩)] w fun e w'=>e=.returned (.tuple #[.agg #[.int .u8 4,.int .i64 c,.string ⟨#[]⟩],.bool B])∧Below w.heap.size w w':=by
 have hbl:=hin.1
 have H0:=Lib.hid (((Ok.start w).add (ae b 0 [.string s]) hin).var w.heap.size 35 [.int .u8 0,.int .i64 0,.string ⟨#[]⟩] rfl)
 clear hin
 go_enter func120,ntmps120
 go_upto_region 1 with fail
 generalize (w.alloc (.cells #[.int .u8 0,.int .i64 0,.string ⟨#[]⟩] 35))=W1 at H0 ⊢
 have F2:=sE H0
 go_wp2_with fail
 refine cM (HT.out _ (hw.out.below H0.out.bel)) H0 fun w3 H5=>?_
 clear F2 H0
 have F6:=sE H5
 go_wp2_with fail
 refine cM (aU c h1 h7 _) H5 fun w7 H9=>?_
 clear F6 H5
 have F10:=sE H9
 go_wp2_with fail
 have hfar:∀ x∈[ae b 0 [.string s]],x.far (some w.heap.size):=by
  intro x hx
  simp only [List.mem_cons,List.not_mem_nil,or_false] at hx
  subst hx
  show some b≠some w.heap.size
  intro h
  injection h
  omega
 have HE:=Lib.hid (((H9.out.set_ (i:=0) (u:=.int .u8 4) (by omega) hfar).set_ (i:=1) (u:=.int .i64 c) (by omega) hfar).set_ (i:=2) (u:=.string ⟨#[]⟩) (by omega) hfar)
 have F9:=HE.out.sees
 simp only [sees,af,ae,ag,Nat.add_zero,aa,Nat.reduceAdd,List.set_cons_succ,List.set_cons_zero] at F9
 obtain ⟨⟨⟨y0,g0⟩,r0,r1,r2,-⟩,-⟩:=F9
 exact bodyPost_ret (v:=.tuple #[.agg #[.int .u8 4,.int .i64 c,.string ⟨#[]⟩],.bool B]) (by simp [results,results120,go_sem,r0,r1,r2]) rfl ⟨rfl,HE.out.bel⟩
theorem xS (s:ByteArray) (b:Nat) (HT:ao (∀ w,Calls prog 123 #[.string s] w fun e w'=>e=.returned (.tuple #[.int .i64 0,.int .i64 3])∧Below w.heap.size w w')) (w:World) (hin:cK b s w) :
  Calls prog 122 #[.pointer (some ⟨b,0,none⟩)] w fun e w'=>e=.returned (.tuple #[.agg #[.int .u8 4,.int .i64 3,.string ⟨#[]⟩],.bool true])∧Below w.heap.size w w':=by
 have hbl:=hin.1
 have H0:=Lib.hid (((Ok.start w).add (ae b 0 [.string s]) hin).var w.heap.size 35 [.int .u8 0,.int .i64 0,.string ⟨#[]⟩] rfl)
 clear hin
 go_enter func122,ntmps122
 go_upto_region 1 with fail
 generalize (w.alloc (.cells #[.int .u8 0,.int .i64 0,.string ⟨#[]⟩] 35))=W1 at H0 ⊢
 have F2:=sE H0
 go_wp2_with fail
 refine cM (HT.out _) H0 fun w3 H5=>?_
 clear F2 H0
 have F6:=sE H5
 go_wp2_with fail
 refine cM (aU 3 (by decide) (by decide) _) H5 fun w7 H9=>?_
 clear F6 H5
 have F10:=sE H9
 go_wp2_with fail
 have hfar:∀ x∈[ae b 0 [.string s]],x.far (some w.heap.size):=by
  intro x hx
  simp only [List.mem_cons,List.not_mem_nil,or_false] at hx
  subst hx
  show some b≠some w.heap.size
  intro h
  injection h
  omega
 have HE:=Lib.hid (((H9.out.set_ (i:=0) (u:=.int .u8 4) (by omega) hfar).set_ (i:=1) (u:=.int .i64 3) (by omega) hfar).set_ (i:=2) (u:=.string ⟨#[]⟩) (by omega) hfar)
 have F9:=HE.out.sees
 simp only [sees,af,ae,ag,Nat.add_zero,aa,Nat.reduceAdd,List.set_cons_succ,List.set_cons_zero] at F9
 obtain ⟨⟨⟨y0,g0⟩,r0,r1,r2,-⟩,-⟩:=F9
 exact bodyPost_ret (v:=.tuple #[.agg #[.int .u8 4,.int .i64 3,.string ⟨#[]⟩],.bool true]) (by simp [results,results122,go_sem,r0,r1,r2]) rfl ⟨rfl,HE.out.bel⟩
theorem xT (s:ByteArray) (b:Nat) (n:Int) (hn:(n == -9223372036854775808)=false) (HT:ao (∀ w,Calls prog 123 #[.string s] w fun e w'=>e=.returned (.tuple #[.int .i64 n,.int .i64 0])∧Below w.heap.size w w')) (w:World) (hin:cK b s w) :
  Calls prog 122 #[.pointer (some ⟨b,0,none⟩)] w fun e w'=>e=.returned (.tuple #[.agg #[.int .u8 1,.int .i64 n,.string ⟨#[]⟩],.bool true])∧Below w.heap.size w w':=by
 have hbl:=hin.1
 have H0:=Lib.hid (((Ok.start w).add (ae b 0 [.string s]) hin).var w.heap.size 35 [.int .u8 0,.int .i64 0,.string ⟨#[]⟩] rfl)
 clear hin
 go_enter func122,ntmps122
 go_upto_region 1 with fail
 generalize (w.alloc (.cells #[.int .u8 0,.int .i64 0,.string ⟨#[]⟩] 35))=W1 at H0 ⊢
 have F2:=sE H0
 go_wp2_with fail
 refine cM (HT.out _) H0 fun w3 H5=>?_
 clear F2 H0
 have F6:=sE H5
 go_wp2_with fail
 refine cM (kU n hn _) H5 fun w7 H9=>?_
 clear F6 H5
 have F10:=sE H9
 go_wp2_with fail
 have hfar:∀ x∈[ae b 0 [.string s]],x.far (some w.heap.size):=by
  intro x hx
  simp only [List.mem_cons,List.not_mem_nil,or_false] at hx
  subst hx
  show some b≠some w.heap.size
  intro h
  injection h
  omega
 have HE:=Lib.hid (((H9.out.set_ (i:=0) (u:=.int .u8 1) (by omega) hfar).set_ (i:=1) (u:=.int .i64 n) (by omega) hfar).set_ (i:=2) (u:=.string ⟨#[]⟩) (by omega) hfar)
 have F9:=HE.out.sees
 simp only [sees,af,ae,ag,Nat.add_zero,aa,Nat.reduceAdd,List.set_cons_succ,List.set_cons_zero] at F9
 obtain ⟨⟨⟨y0,g0⟩,r0,r1,r2,-⟩,-⟩:=F9
 exact bodyPost_ret (v:=.tuple #[.agg #[.int .u8 1,.int .i64 n,.string ⟨#[]⟩],.bool true]) (by simp [results,results122,go_sem,r0,r1,r2]) rfl ⟨rfl,HE.out.bel⟩
theorem xR (s:ByteArray) (b:Nat) (HT:ao (∀ w,Calls prog 123 #[.string s] w fun e w'=>e=.returned (.tuple #[.int .i64 0,.int .i64 4])∧Below w.heap.size w w')) (w:World) (hin:cK b s w) :
  Calls prog 122 #[.pointer (some ⟨b,0,none⟩)] w fun e w'=>e=.returned (.tuple #[.agg #[.int .u8 1,.int .i64 0,.string ⟨#[]⟩],.bool false])∧Below w.heap.size w w':=by
 have hbl:=hin.1
 have H0:=Lib.hid (((Ok.start w).add (ae b 0 [.string s]) hin).var w.heap.size 35 [.int .u8 0,.int .i64 0,.string ⟨#[]⟩] rfl)
 clear hin
 go_enter func122,ntmps122
 go_upto_region 1 with fail
 generalize (w.alloc (.cells #[.int .u8 0,.int .i64 0,.string ⟨#[]⟩] 35))=W1 at H0 ⊢
 have F2:=sE H0
 go_wp2_with fail
 refine cM (HT.out _) H0 fun w3 H5=>?_
 clear F2 H0
 have F6:=sE H5
 go_wp2_with fail
 refine cM (kU 0 (by decide) _) H5 fun w7 H9=>?_
 clear F6 H5
 have F10:=sE H9
 go_wp2_with fail
 have hfar:∀ x∈[ae b 0 [.string s]],x.far (some w.heap.size):=by
  intro x hx
  simp only [List.mem_cons,List.not_mem_nil,or_false] at hx
  subst hx
  show some b≠some w.heap.size
  intro h
  injection h
  omega
 have HE:=Lib.hid (((H9.out.set_ (i:=0) (u:=.int .u8 1) (by omega) hfar).set_ (i:=1) (u:=.int .i64 0) (by omega) hfar).set_ (i:=2) (u:=.string ⟨#[]⟩) (by omega) hfar)
 have F9:=HE.out.sees
 simp only [sees,af,ae,ag,Nat.add_zero,aa,Nat.reduceAdd,List.set_cons_succ,List.set_cons_zero] at F9
 obtain ⟨⟨⟨y0,g0⟩,r0,r1,r2,-⟩,-⟩:=F9
 exact bodyPost_ret (v:=.tuple #[.agg #[.int .u8 1,.int .i64 0,.string ⟨#[]⟩],.bool false]) (by simp [results,results122,go_sem,r0,r1,r2]) rfl ⟨rfl,HE.out.bel⟩
