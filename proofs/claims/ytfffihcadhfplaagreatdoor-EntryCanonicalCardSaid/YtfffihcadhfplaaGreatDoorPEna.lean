/- The closures of entry.constant. Plain: what an input means that is no formula. No program stands here. Plain: what an input means. No program stands here. -/
import Derived.Test.YtfffihcadhfplaaGreatDoorPEvb
import Derived.Test.YtfffihcadhfplaaGreatDoorPDecF
import Derived.Test.YtfffihcadhfplaaGreatDoorPShelf
import Derived.Test.YtfffihcadhfplaaGreatDoorPParM
namespace Go.Proofs.YtfffihcadhfplaaGreatDoor
set_option maxRecDepth 100000
set_option maxHeartbeats 4000000
open Go.RowKit
theorem fail_zero (w:World) :
  Calls Tryz.prog 19 #[.int .i64 0] w fun e w'=>e=.returned (.agg #[.int .u8 4,.int .i64 2,.string ⟨#[]⟩])∧Below w.heap.size w w':=by
 have H1:=Lib.hid ((Ok.start w).var w.heap.size 23 [.int .u8 4,.int .i64 2,.string ⟨#[]⟩] rfl)
 go_enter Tryz.func19,Tryz.ntmps19
 go_wp2_with fail
 generalize (w.alloc (.cells #[.int .u8 4,.int .i64 2,.string ⟨#[]⟩] 23))=W2 at H1 ⊢
 have F3:=H1.out.sees
 simp only [sees,kVar,cellsAt,Nat.reduceAdd] at F3
 obtain ⟨⟨⟨z0,fz0⟩,c00,c01,c02,-⟩,-⟩:=F3
 exact bodyPost_ret (v:=.agg #[.int .u8 4,.int .i64 2,.string ⟨#[]⟩]) (by simp [results,Tryz.results19,go_sem,c00,c01,c02]) rfl ⟨rfl,H1.out.bel⟩
def InBox (b:Nat) (s:ByteArray) (w:World):Prop:=b<w.heap.size∧cellsFrom w b 0 0 [.string s]
theorem InBox.below {b:Nat} {s:ByteArray} {w w':World} (h:InBox b s w) (hb:Below w.heap.size w w'):InBox b s w' :=
 ⟨Nat.lt_of_lt_of_le h.1 hb.size,(hb.cell h.1).trans h.2.1,trivial⟩
theorem cl1_y (b:Nat) (w:World) (hin:InBox b ⟨#[]⟩ w) :
  Calls Tryz.prog 43 #[.pointer (some ⟨b,0,none⟩)] w fun e w'=>e=.returned (.tuple #[.agg #[.int .u8 0,.int .i64 0,.string ⟨#[]⟩],.bool true])∧Below w.heap.size w w':=by
 have hbl:=hin.1
 have H0:=Lib.hid (((Ok.start w).add (kCells b 0 [.string ⟨#[]⟩]) hin).var w.heap.size 23 [.int .u8 0,.int .i64 0,.string ⟨#[]⟩] rfl)
 clear hin
 go_enter Tryz.func43,Tryz.ntmps43
 go_upto_region 1 with fail
 generalize (w.alloc (.cells #[.int .u8 0,.int .i64 0,.string ⟨#[]⟩] 23))=W1 at H0 ⊢
 have F2:=H0.out.sees
 simp only [sees,kVar,kCells,cellsFrom,Nat.add_zero,cellsAt,Nat.reduceAdd] at F2
 obtain ⟨⟨⟨z0,fz0⟩,c00,c01,c02,-⟩,⟨z1,c10,-⟩,-⟩:=F2
 go_region
 go_wp2_with fail
 have hfar:∀ x∈[kCells b 0 [.string ⟨#[]⟩]],x.far (some w.heap.size):=by
  intro x hx
  simp only [List.mem_cons,List.not_mem_nil,or_false] at hx
  subst hx
  show some b≠some w.heap.size
  intro h
  injection h
  omega
 have HE:=Lib.hid (((H0.out.set_ (i:=0) (u:=.int .u8 0) (by omega) hfar).set_ (i:=1) (u:=.int .i64 0) (by omega) hfar).set_ (i:=2) (u:=.string ⟨#[]⟩) (by omega) hfar).drew
 have F9:=HE.out.sees
 simp only [sees,kVar,kCells,cellsFrom,Nat.add_zero,cellsAt,Nat.reduceAdd,List.set_cons_succ,List.set_cons_zero] at F9
 obtain ⟨⟨⟨y0,g0⟩,r0,r1,r2,-⟩,-⟩:=F9
 exact bodyPost_ret (v:=.tuple #[.agg #[.int .u8 0,.int .i64 0,.string ⟨#[]⟩],.bool true]) (by simp [results,Tryz.results43,go_sem,r0,r1,r2]) rfl ⟨rfl,HE.out.bel⟩
theorem cl1_n (s:ByteArray) (b:Nat) (hs:s.toList.isEmpty=false) (w:World) (hin:InBox b s w) :
  Calls Tryz.prog 43 #[.pointer (some ⟨b,0,none⟩)] w fun e w'=>e=.returned (.tuple #[.agg #[.int .u8 0,.int .i64 0,.string ⟨#[]⟩],.bool false])∧Below w.heap.size w w':=by
 have hbl:=hin.1
 have H0:=Lib.hid (((Ok.start w).add (kCells b 0 [.string s]) hin).var w.heap.size 23 [.int .u8 0,.int .i64 0,.string ⟨#[]⟩] rfl)
 clear hin
 go_enter Tryz.func43,Tryz.ntmps43
 go_upto_region 1 with fail
 generalize (w.alloc (.cells #[.int .u8 0,.int .i64 0,.string ⟨#[]⟩] 23))=W1 at H0 ⊢
 have F2:=H0.out.sees
 simp only [sees,kVar,kCells,cellsFrom,Nat.add_zero,cellsAt,Nat.reduceAdd] at F2
 obtain ⟨⟨⟨z0,fz0⟩,c00,c01,c02,-⟩,⟨z1,c10,-⟩,-⟩:=F2
 go_region
 go_wp2_with fail
 have hfar:∀ x∈[kCells b 0 [.string s]],x.far (some w.heap.size):=by
  intro x hx
  simp only [List.mem_cons,List.not_mem_nil,or_false] at hx
  subst hx
  show some b≠some w.heap.size
  intro h
  injection h
  omega
 have HE:=Lib.hid (((H0.out.set_ (i:=0) (u:=.int .u8 0) (by omega) hfar).set_ (i:=1) (u:=.int .i64 0) (by omega) hfar).set_ (i:=2) (u:=.string ⟨#[]⟩) (by omega) hfar).drew
 have F9:=HE.out.sees
 simp only [sees,kVar,kCells,cellsFrom,Nat.add_zero,cellsAt,Nat.reduceAdd,List.set_cons_succ,List.set_cons_zero] at F9
 obtain ⟨⟨⟨y0,g0⟩,r0,r1,r2,-⟩,-⟩:=F9
 exact bodyPost_ret (v:=.tuple #[.agg #[.int .u8 0,.int .i64 0,.string ⟨#[]⟩],.bool false]) (by simp [results,Tryz.results43,go_sem,r0,r1,r2]) rfl ⟨rfl,HE.out.bel⟩
theorem cl2 (s:ByteArray) (b:Nat) (X:ByteArray) (B:Bool) (hX:(⟨(Lib.trimPrefix s.data.toList [39]).toArray⟩:ByteArray)=X) (hB:Lib.hasPrefix s.data.toList [39]=B) (w:World) (hin:InBox b s w) :
  Calls Tryz.prog 44 #[.pointer (some ⟨b,0,none⟩)] w fun e w'=>e=.returned (.tuple #[.agg #[.int .u8 3,.int .i64 0,.string X],.bool B])∧Below w.heap.size w w':=by
 have HX:=keep hX
 have HB:=keep hB
 clear hX hB
 have hbl:=hin.1
 have H0:=Lib.hid (((Ok.start w).add (kCells b 0 [.string s]) hin).var w.heap.size 23 [.int .u8 0,.int .i64 0,.string ⟨#[]⟩] rfl)
 clear hin
 go_enter Tryz.func44,Tryz.ntmps44
 go_upto_region 1 with fail
 generalize (w.alloc (.cells #[.int .u8 0,.int .i64 0,.string ⟨#[]⟩] 23))=W1 at H0 ⊢
 have F2:=H0.out.sees
 simp only [sees,kVar,kCells,cellsFrom,Nat.add_zero,cellsAt,Nat.reduceAdd] at F2
 obtain ⟨⟨⟨z0,fz0⟩,c00,c01,c02,-⟩,⟨z1,c10,-⟩,-⟩:=F2
 go_wp2_with fail
 refine (Tryz.strings_CutPrefix s ⟨#[39]⟩ _).mono ?_
 rintro e w9 ⟨rfl,hw9⟩
 obtain rfl:W1=w9:=hw9.symm
 have hX:(⟨(Lib.trimPrefix s.data.toList (⟨#[39]⟩:ByteArray).data.toList).toArray⟩:ByteArray)=X:=HX.out
 have hB:Lib.hasPrefix s.data.toList (⟨#[39]⟩:ByteArray).data.toList=B:=HB.out
 rw [hX,hB]
 clear hX hB
 go_wp2_with fail
 have hfar:∀ x∈[kCells b 0 [.string s]],x.far (some w.heap.size):=by
  intro x hx
  simp only [List.mem_cons,List.not_mem_nil,or_false] at hx
  subst hx
  show some b≠some w.heap.size
  intro h
  injection h
  omega
 have HE:=Lib.hid (((H0.out.set_ (i:=0) (u:=.int .u8 3) (by omega) hfar).set_ (i:=1) (u:=.int .i64 0) (by omega) hfar).set_ (i:=2) (u:=.string X) (by omega) hfar)
 have F9:=HE.out.sees
 simp only [sees,kVar,kCells,cellsFrom,Nat.add_zero,cellsAt,Nat.reduceAdd,List.set_cons_succ,List.set_cons_zero] at F9
 obtain ⟨⟨⟨y0,g0⟩,r0,r1,r2,-⟩,-⟩:=F9
 exact bodyPost_ret (v:=.tuple #[.agg #[.int .u8 3,.int .i64 0,.string X],.bool B]) (by simp [results,Tryz.results44,go_sem,r0,r1,r2]) rfl ⟨rfl,HE.out.bel⟩
theorem cl3_t (s:ByteArray) (b:Nat) (HT:Keep (∀ w,Calls Tryz.prog 46 #[.agg #[.int .u8 3,.int .i64 0,.string s]] w fun e w'=>e=.returned (.agg #[.int .u8 2,.int .i64 1,.string ⟨#[]⟩])∧Below w.heap.size w w')) (w:World) (hin:InBox b s w) :
  Calls Tryz.prog 45 #[.pointer (some ⟨b,0,none⟩)] w fun e w'=>e=.returned (.tuple #[.agg #[.int .u8 2,.int .i64 1,.string ⟨#[]⟩],.bool true])∧Below w.heap.size w w':=by
 have hbl:=hin.1
 have H0:=Lib.hid (((Ok.start w).add (kCells b 0 [.string s]) hin).var w.heap.size 23 [.int .u8 0,.int .i64 0,.string ⟨#[]⟩] rfl)
 clear hin
 go_enter Tryz.func45,Tryz.ntmps45
 go_upto_region 1 with fail
 generalize (w.alloc (.cells #[.int .u8 0,.int .i64 0,.string ⟨#[]⟩] 23))=W1 at H0 ⊢
 have F2:=H0.out.sees
 simp only [sees,kVar,kCells,cellsFrom,Nat.add_zero,cellsAt,Nat.reduceAdd] at F2
 obtain ⟨⟨⟨z0,fz0⟩,c00,c01,c02,-⟩,⟨z1,c10,-⟩,-⟩:=F2
 go_wp2_with fail
 refine (HT.out _).mono ?_
 rintro e w3 ⟨rfl,hb4⟩
 clear z0 fz0 c00 c01 c02 z1 c10
 have H5:=Lib.hid (H0.out.below hb4)
 clear hb4 H0
 have F6:=H5.out.sees
 simp only [sees,kVar,kCells,cellsFrom,Nat.add_zero,cellsAt,Nat.reduceAdd] at F6
 obtain ⟨⟨⟨z0,fz0⟩,c00,c01,c02,-⟩,⟨z1,c10,-⟩,-⟩:=F6
 have hsz:=Lib.hid (show w.heap.size<w3.heap.size from z0)
 go_upto_region 2 with fail
 have y7:=z0
 have y8:=z1
 clear z0 fz0 c00 c01 c02 z1 c10
 have H9:=Lib.hid (H5.out.var w3.heap.size 23 [.int .u8 2,.int .i64 1,.string ⟨#[]⟩] rfl)
 clear H5
 generalize (w3.alloc (.cells #[.int .u8 2,.int .i64 1,.string ⟨#[]⟩] 23))=W10 at H9 ⊢
 have F11:=H9.out.sees
 simp only [sees,kVar,kCells,cellsFrom,Nat.add_zero,cellsAt,Nat.reduceAdd] at F11
 obtain ⟨⟨⟨z0,fz0⟩,c00,c01,c02,-⟩,⟨⟨z1,fz1⟩,c10,c11,c12,-⟩,⟨z2,c20,-⟩,-⟩:=F11
 go_region
 go_wp2_with fail
 have H12:=Lib.hid (H9.out.drop [kVar (w.heap.size) 23 [.int .u8 0,.int .i64 0,.string ⟨#[]⟩],kVar (w3.heap.size) 23 [.int .u8 2,.int .i64 1,.string ⟨#[]⟩],kCells b 0 [.string s]] (by simp))
 have hfar:∀ x∈[kVar (w3.heap.size) 23 [.int .u8 2,.int .i64 1,.string ⟨#[]⟩],kCells b 0 [.string s]],x.far (some w.heap.size):=by
  intro x hx
  simp only [List.mem_cons,List.not_mem_nil,or_false] at hx
  rcases hx with rfl | rfl
  ·show some _≠some w.heap.size
   intro h
   injection h with h
   have:=hsz.out
   omega
  ·show some b≠some w.heap.size
   intro h
   injection h
   omega
 have HE:=Lib.hid (((H12.out.set_ (i:=0) (u:=.int .u8 2) (by omega) hfar).set_ (i:=1) (u:=.int .i64 1) (by omega) hfar).set_ (i:=2) (u:=.string ⟨#[]⟩) (by omega) hfar).drew
 have F9:=HE.out.sees
 simp only [sees,kVar,kCells,cellsFrom,Nat.add_zero,cellsAt,Nat.reduceAdd,List.set_cons_succ,List.set_cons_zero] at F9
 obtain ⟨⟨⟨y0,g0⟩,r0,r1,r2,-⟩,-⟩:=F9
 exact bodyPost_ret (v:=.tuple #[.agg #[.int .u8 2,.int .i64 1,.string ⟨#[]⟩],.bool true]) (by simp [results,Tryz.results45,go_sem,r0,r1,r2]) rfl ⟨rfl,HE.out.bel⟩
theorem cl3_f (s:ByteArray) (b:Nat) (HT:Keep (∀ w,Calls Tryz.prog 46 #[.agg #[.int .u8 3,.int .i64 0,.string s]] w fun e w'=>e=.returned (.agg #[.int .u8 2,.int .i64 0,.string ⟨#[]⟩])∧Below w.heap.size w w')) (w:World) (hin:InBox b s w) :
  Calls Tryz.prog 45 #[.pointer (some ⟨b,0,none⟩)] w fun e w'=>e=.returned (.tuple #[.agg #[.int .u8 2,.int .i64 0,.string ⟨#[]⟩],.bool true])∧Below w.heap.size w w':=by
 have hbl:=hin.1
 have H0:=Lib.hid (((Ok.start w).add (kCells b 0 [.string s]) hin).var w.heap.size 23 [.int .u8 0,.int .i64 0,.string ⟨#[]⟩] rfl)
 clear hin
 go_enter Tryz.func45,Tryz.ntmps45
 go_upto_region 1 with fail
 generalize (w.alloc (.cells #[.int .u8 0,.int .i64 0,.string ⟨#[]⟩] 23))=W1 at H0 ⊢
 have F2:=H0.out.sees
 simp only [sees,kVar,kCells,cellsFrom,Nat.add_zero,cellsAt,Nat.reduceAdd] at F2
 obtain ⟨⟨⟨z0,fz0⟩,c00,c01,c02,-⟩,⟨z1,c10,-⟩,-⟩:=F2
 go_wp2_with fail
 refine (HT.out _).mono ?_
 rintro e w3 ⟨rfl,hb4⟩
 clear z0 fz0 c00 c01 c02 z1 c10
 have H5:=Lib.hid (H0.out.below hb4)
 clear hb4 H0
 have F6:=H5.out.sees
 simp only [sees,kVar,kCells,cellsFrom,Nat.add_zero,cellsAt,Nat.reduceAdd] at F6
 obtain ⟨⟨⟨z0,fz0⟩,c00,c01,c02,-⟩,⟨z1,c10,-⟩,-⟩:=F6
 have hsz:=Lib.hid (show w.heap.size<w3.heap.size from z0)
 go_upto_region 2 with fail
 have y7:=z0
 have y8:=z1
 clear z0 fz0 c00 c01 c02 z1 c10
 have H9:=Lib.hid (H5.out.var w3.heap.size 23 [.int .u8 2,.int .i64 0,.string ⟨#[]⟩] rfl)
 clear H5
 generalize (w3.alloc (.cells #[.int .u8 2,.int .i64 0,.string ⟨#[]⟩] 23))=W10 at H9 ⊢
 have F11:=H9.out.sees
 simp only [sees,kVar,kCells,cellsFrom,Nat.add_zero,cellsAt,Nat.reduceAdd] at F11
 obtain ⟨⟨⟨z0,fz0⟩,c00,c01,c02,-⟩,⟨⟨z1,fz1⟩,c10,c11,c12,-⟩,⟨z2,c20,-⟩,-⟩:=F11
 go_region
 go_wp2_with fail
 have H12:=Lib.hid (H9.out.drop [kVar (w.heap.size) 23 [.int .u8 0,.int .i64 0,.string ⟨#[]⟩],kVar (w3.heap.size) 23 [.int .u8 2,.int .i64 0,.string ⟨#[]⟩],kCells b 0 [.string s]] (by simp))
 have hfar:∀ x∈[kVar (w3.heap.size) 23 [.int .u8 2,.int .i64 0,.string ⟨#[]⟩],kCells b 0 [.string s]],x.far (some w.heap.size):=by
  intro x hx
  simp only [List.mem_cons,List.not_mem_nil,or_false] at hx
  rcases hx with rfl | rfl
  ·show some _≠some w.heap.size
   intro h
   injection h with h
   have:=hsz.out
   omega
  ·show some b≠some w.heap.size
   intro h
   injection h
   omega
 have HE:=Lib.hid (((H12.out.set_ (i:=0) (u:=.int .u8 2) (by omega) hfar).set_ (i:=1) (u:=.int .i64 0) (by omega) hfar).set_ (i:=2) (u:=.string ⟨#[]⟩) (by omega) hfar).drew
 have F9:=HE.out.sees
 simp only [sees,kVar,kCells,cellsFrom,Nat.add_zero,cellsAt,Nat.reduceAdd,List.set_cons_succ,List.set_cons_zero] at F9
 obtain ⟨⟨⟨y0,g0⟩,r0,r1,r2,-⟩,-⟩:=F9
 exact bodyPost_ret (v:=.tuple #[.agg #[.int .u8 2,.int .i64 0,.string ⟨#[]⟩],.bool true]) (by simp [results,Tryz.results45,go_sem,r0,r1,r2]) rfl ⟨rfl,HE.out.bel⟩
theorem cl3_n (s:ByteArray) (b:Nat) (HT:Keep (∀ w,Calls Tryz.prog 46 #[.agg #[.int .u8 3,.int .i64 0,.string s]] w fun e w'=>e=.returned (.agg #[.int .u8 4,.int .i64 2,.string ⟨#[]⟩])∧Below w.heap.size w w')) (w:World) (hin:InBox b s w) :
  Calls Tryz.prog 45 #[.pointer (some ⟨b,0,none⟩)] w fun e w'=>e=.returned (.tuple #[.agg #[.int .u8 4,.int .i64 2,.string ⟨#[]⟩],.bool false])∧Below w.heap.size w w':=by
 have hbl:=hin.1
 have H0:=Lib.hid (((Ok.start w).add (kCells b 0 [.string s]) hin).var w.heap.size 23 [.int .u8 0,.int .i64 0,.string ⟨#[]⟩] rfl)
 clear hin
 go_enter Tryz.func45,Tryz.ntmps45
 go_upto_region 1 with fail
 generalize (w.alloc (.cells #[.int .u8 0,.int .i64 0,.string ⟨#[]⟩] 23))=W1 at H0 ⊢
 have F2:=H0.out.sees
 simp only [sees,kVar,kCells,cellsFrom,Nat.add_zero,cellsAt,Nat.reduceAdd] at F2
 obtain ⟨⟨⟨z0,fz0⟩,c00,c01,c02,-⟩,⟨z1,c10,-⟩,-⟩:=F2
 go_wp2_with fail
 refine (HT.out _).mono ?_
 rintro e w3 ⟨rfl,hb4⟩
 clear z0 fz0 c00 c01 c02 z1 c10
 have H5:=Lib.hid (H0.out.below hb4)
 clear hb4 H0
 have F6:=H5.out.sees
 simp only [sees,kVar,kCells,cellsFrom,Nat.add_zero,cellsAt,Nat.reduceAdd] at F6
 obtain ⟨⟨⟨z0,fz0⟩,c00,c01,c02,-⟩,⟨z1,c10,-⟩,-⟩:=F6
 have hsz:=Lib.hid (show w.heap.size<w3.heap.size from z0)
 go_upto_region 2 with fail
 have y7:=z0
 have y8:=z1
 clear z0 fz0 c00 c01 c02 z1 c10
 have H9:=Lib.hid (H5.out.var w3.heap.size 23 [.int .u8 4,.int .i64 2,.string ⟨#[]⟩] rfl)
 clear H5
 generalize (w3.alloc (.cells #[.int .u8 4,.int .i64 2,.string ⟨#[]⟩] 23))=W10 at H9 ⊢
 have F11:=H9.out.sees
 simp only [sees,kVar,kCells,cellsFrom,Nat.add_zero,cellsAt,Nat.reduceAdd] at F11
 obtain ⟨⟨⟨z0,fz0⟩,c00,c01,c02,-⟩,⟨⟨z1,fz1⟩,c10,c11,c12,-⟩,⟨z2,c20,-⟩,-⟩:=F11
 go_region
 go_wp2_with fail
 have H12:=Lib.hid (H9.out.drop [kVar (w.heap.size) 23 [.int .u8 0,.int .i64 0,.string ⟨#[]⟩],kVar (w3.heap.size) 23 [.int .u8 4,.int .i64 2,.string ⟨#[]⟩],kCells b 0 [.string s]] (by simp))
 have hfar:∀ x∈[kVar (w3.heap.size) 23 [.int .u8 4,.int .i64 2,.string ⟨#[]⟩],kCells b 0 [.string s]],x.far (some w.heap.size):=by
  intro x hx
  simp only [List.mem_cons,List.not_mem_nil,or_false] at hx
  rcases hx with rfl | rfl
  ·show some _≠some w.heap.size
   intro h
   injection h with h
   have:=hsz.out
   omega
  ·show some b≠some w.heap.size
   intro h
   injection h
   omega
 have HE:=Lib.hid (((H12.out.set_ (i:=0) (u:=.int .u8 4) (by omega) hfar).set_ (i:=1) (u:=.int .i64 2) (by omega) hfar).set_ (i:=2) (u:=.string ⟨#[]⟩) (by omega) hfar).drew
 have F9:=HE.out.sees
 simp only [sees,kVar,kCells,cellsFrom,Nat.add_zero,cellsAt,Nat.reduceAdd,List.set_cons_succ,List.set_cons_zero] at F9
 obtain ⟨⟨⟨y0,g0⟩,r0,r1,r2,-⟩,-⟩:=F9
 exact bodyPost_ret (v:=.tuple #[.agg #[.int .u8 4,.int .i64 2,.string ⟨#[]⟩],.bool false]) (by simp [results,Tryz.results45,go_sem,r0,r1,r2]) rfl ⟨rfl,HE.out.bel⟩
theorem cl4_n (s:ByteArray) (b:Nat) (HT:Keep (∀ w,Words w→Calls Tryz.prog 48 #[.string s] w fun e w'=>e=.returned (.tuple #[.int .i64 0,.int .i64 4])∧Below w.heap.size w w')) (w:World) (hin:InBox b s w) (hw:Keep (Words w)) :
  Calls Tryz.prog 47 #[.pointer (some ⟨b,0,none⟩)] w fun e w'=>e=.returned (.tuple #[.agg #[.int .u8 4,.int .i64 2,.string ⟨#[]⟩],.bool false])∧Below w.heap.size w w':=by
 have hbl:=hin.1
 have H0:=Lib.hid (((Ok.start w).add (kCells b 0 [.string s]) hin).var w.heap.size 23 [.int .u8 0,.int .i64 0,.string ⟨#[]⟩] rfl)
 clear hin
 go_enter Tryz.func47,Tryz.ntmps47
 go_upto_region 1 with fail
 generalize (w.alloc (.cells #[.int .u8 0,.int .i64 0,.string ⟨#[]⟩] 23))=W1 at H0 ⊢
 have F2:=H0.out.sees
 simp only [sees,kVar,kCells,cellsFrom,Nat.add_zero,cellsAt,Nat.reduceAdd] at F2
 obtain ⟨⟨⟨z0,fz0⟩,c00,c01,c02,-⟩,⟨z1,c10,-⟩,-⟩:=F2
 go_wp2_with fail
 refine (HT.out _ (hw.out.below H0.out.bel)).mono ?_
 rintro e w3 ⟨rfl,hb4⟩
 clear z0 fz0 c00 c01 c02 z1 c10
 have H5:=Lib.hid (H0.out.below hb4)
 clear hb4 H0
 have F6:=H5.out.sees
 simp only [sees,kVar,kCells,cellsFrom,Nat.add_zero,cellsAt,Nat.reduceAdd] at F6
 obtain ⟨⟨⟨z0,fz0⟩,c00,c01,c02,-⟩,⟨z1,c10,-⟩,-⟩:=F6
 go_wp2_with fail
 refine (fail_zero _).mono ?_
 rintro e w7 ⟨rfl,hb8⟩
 clear z0 fz0 c00 c01 c02 z1 c10
 have H9:=Lib.hid (H5.out.below hb8)
 clear hb8 H5
 have F10:=H9.out.sees
 simp only [sees,kVar,kCells,cellsFrom,Nat.add_zero,cellsAt,Nat.reduceAdd] at F10
 obtain ⟨⟨⟨z0,fz0⟩,c00,c01,c02,-⟩,⟨z1,c10,-⟩,-⟩:=F10
 go_wp2_with fail
 have hfar:∀ x∈[kCells b 0 [.string s]],x.far (some w.heap.size):=by
  intro x hx
  simp only [List.mem_cons,List.not_mem_nil,or_false] at hx
  subst hx
  show some b≠some w.heap.size
  intro h
  injection h
  omega
 have HE:=Lib.hid (((H9.out.set_ (i:=0) (u:=.int .u8 4) (by omega) hfar).set_ (i:=1) (u:=.int .i64 2) (by omega) hfar).set_ (i:=2) (u:=.string ⟨#[]⟩) (by omega) hfar)
 have F9:=HE.out.sees
 simp only [sees,kVar,kCells,cellsFrom,Nat.add_zero,cellsAt,Nat.reduceAdd,List.set_cons_succ,List.set_cons_zero] at F9
 obtain ⟨⟨⟨y0,g0⟩,r0,r1,r2,-⟩,-⟩:=F9
 exact bodyPost_ret (v:=.tuple #[.agg #[.int .u8 4,.int .i64 2,.string ⟨#[]⟩],.bool false]) (by simp [results,Tryz.results47,go_sem,r0,r1,r2]) rfl ⟨rfl,HE.out.bel⟩
theorem cl4_y (s:ByteArray) (b:Nat) (c:Int) (h1:1≤c) (h7:c≤7) (B:Bool) (hB:decide (c≤5)=B) (HT:Keep (∀ w,Words w→Calls Tryz.prog 48 #[.string s] w fun e w'=>e=.returned (.tuple #[.int .i64 c,.int .i64 0])∧Below w.heap.size w w')) (w:World) (hin:InBox b s w) (hw:Keep (Words w)) :
  Calls Tryz.prog 47 #[.pointer (some ⟨b,0,none⟩)] w fun e w'=>e=.returned (.tuple #[.agg #[.int .u8 4,.int .i64 c,.string ⟨#[]⟩],.bool B])∧Below w.heap.size w w':=by
 have hbl:=hin.1
 have H0:=Lib.hid (((Ok.start w).add (kCells b 0 [.string s]) hin).var w.heap.size 23 [.int .u8 0,.int .i64 0,.string ⟨#[]⟩] rfl)
 clear hin
 go_enter Tryz.func47,Tryz.ntmps47
 go_upto_region 1 with fail
 generalize (w.alloc (.cells #[.int .u8 0,.int .i64 0,.string ⟨#[]⟩] 23))=W1 at H0 ⊢
 have F2:=H0.out.sees
 simp only [sees,kVar,kCells,cellsFrom,Nat.add_zero,cellsAt,Nat.reduceAdd] at F2
 obtain ⟨⟨⟨z0,fz0⟩,c00,c01,c02,-⟩,⟨z1,c10,-⟩,-⟩:=F2
 go_wp2_with fail
 refine (HT.out _ (hw.out.below H0.out.bel)).mono ?_
 rintro e w3 ⟨rfl,hb4⟩
 clear z0 fz0 c00 c01 c02 z1 c10
 have H5:=Lib.hid (H0.out.below hb4)
 clear hb4 H0
 have F6:=H5.out.sees
 simp only [sees,kVar,kCells,cellsFrom,Nat.add_zero,cellsAt,Nat.reduceAdd] at F6
 obtain ⟨⟨⟨z0,fz0⟩,c00,c01,c02,-⟩,⟨z1,c10,-⟩,-⟩:=F6
 go_wp2_with fail
 refine (fail_code c h1 h7 _).mono ?_
 rintro e w7 ⟨rfl,hb8⟩
 clear z0 fz0 c00 c01 c02 z1 c10
 have H9:=Lib.hid (H5.out.below hb8)
 clear hb8 H5
 have F10:=H9.out.sees
 simp only [sees,kVar,kCells,cellsFrom,Nat.add_zero,cellsAt,Nat.reduceAdd] at F10
 obtain ⟨⟨⟨z0,fz0⟩,c00,c01,c02,-⟩,⟨z1,c10,-⟩,-⟩:=F10
 go_wp2_with fail
 have hfar:∀ x∈[kCells b 0 [.string s]],x.far (some w.heap.size):=by
  intro x hx
  simp only [List.mem_cons,List.not_mem_nil,or_false] at hx
  subst hx
  show some b≠some w.heap.size
  intro h
  injection h
  omega
 have HE:=Lib.hid (((H9.out.set_ (i:=0) (u:=.int .u8 4) (by omega) hfar).set_ (i:=1) (u:=.int .i64 c) (by omega) hfar).set_ (i:=2) (u:=.string ⟨#[]⟩) (by omega) hfar)
 have F9:=HE.out.sees
 simp only [sees,kVar,kCells,cellsFrom,Nat.add_zero,cellsAt,Nat.reduceAdd,List.set_cons_succ,List.set_cons_zero] at F9
 obtain ⟨⟨⟨y0,g0⟩,r0,r1,r2,-⟩,-⟩:=F9
 exact bodyPost_ret (v:=.tuple #[.agg #[.int .u8 4,.int .i64 c,.string ⟨#[]⟩],.bool B]) (by simp [results,Tryz.results47,go_sem,r0,r1,r2]) rfl ⟨rfl,HE.out.bel⟩
theorem cl5_r (s:ByteArray) (b:Nat) (HT:Keep (∀ w,Calls Tryz.prog 50 #[.string s] w fun e w'=>e=.returned (.tuple #[.int .i64 0,.int .i64 3])∧Below w.heap.size w w')) (w:World) (hin:InBox b s w) :
  Calls Tryz.prog 49 #[.pointer (some ⟨b,0,none⟩)] w fun e w'=>e=.returned (.tuple #[.agg #[.int .u8 4,.int .i64 3,.string ⟨#[]⟩],.bool true])∧Below w.heap.size w w':=by
 have hbl:=hin.1
 have H0:=Lib.hid (((Ok.start w).add (kCells b 0 [.string s]) hin).var w.heap.size 23 [.int .u8 0,.int .i64 0,.string ⟨#[]⟩] rfl)
 clear hin
 go_enter Tryz.func49,Tryz.ntmps49
 go_upto_region 1 with fail
 generalize (w.alloc (.cells #[.int .u8 0,.int .i64 0,.string ⟨#[]⟩] 23))=W1 at H0 ⊢
 have F2:=H0.out.sees
 simp only [sees,kVar,kCells,cellsFrom,Nat.add_zero,cellsAt,Nat.reduceAdd] at F2
 obtain ⟨⟨⟨z0,fz0⟩,c00,c01,c02,-⟩,⟨z1,c10,-⟩,-⟩:=F2
 go_wp2_with fail
 refine (HT.out _).mono ?_
 rintro e w3 ⟨rfl,hb4⟩
 clear z0 fz0 c00 c01 c02 z1 c10
 have H5:=Lib.hid (H0.out.below hb4)
 clear hb4 H0
 have F6:=H5.out.sees
 simp only [sees,kVar,kCells,cellsFrom,Nat.add_zero,cellsAt,Nat.reduceAdd] at F6
 obtain ⟨⟨⟨z0,fz0⟩,c00,c01,c02,-⟩,⟨z1,c10,-⟩,-⟩:=F6
 go_wp2_with fail
 refine (fail_code 3 (by decide) (by decide) _).mono ?_
 rintro e w7 ⟨rfl,hb8⟩
 clear z0 fz0 c00 c01 c02 z1 c10
 have H9:=Lib.hid (H5.out.below hb8)
 clear hb8 H5
 have F10:=H9.out.sees
 simp only [sees,kVar,kCells,cellsFrom,Nat.add_zero,cellsAt,Nat.reduceAdd] at F10
 obtain ⟨⟨⟨z0,fz0⟩,c00,c01,c02,-⟩,⟨z1,c10,-⟩,-⟩:=F10
 go_wp2_with fail
 have hfar:∀ x∈[kCells b 0 [.string s]],x.far (some w.heap.size):=by
  intro x hx
  simp only [List.mem_cons,List.not_mem_nil,or_false] at hx
  subst hx
  show some b≠some w.heap.size
  intro h
  injection h
  omega
 have HE:=Lib.hid (((H9.out.set_ (i:=0) (u:=.int .u8 4) (by omega) hfar).set_ (i:=1) (u:=.int .i64 3) (by omega) hfar).set_ (i:=2) (u:=.string ⟨#[]⟩) (by omega) hfar)
 have F9:=HE.out.sees
 simp only [sees,kVar,kCells,cellsFrom,Nat.add_zero,cellsAt,Nat.reduceAdd,List.set_cons_succ,List.set_cons_zero] at F9
 obtain ⟨⟨⟨y0,g0⟩,r0,r1,r2,-⟩,-⟩:=F9
 exact bodyPost_ret (v:=.tuple #[.agg #[.int .u8 4,.int .i64 3,.string ⟨#[]⟩],.bool true]) (by simp [results,Tryz.results49,go_sem,r0,r1,r2]) rfl ⟨rfl,HE.out.bel⟩
theorem cl5_y (s:ByteArray) (b:Nat) (n:Int) (hn:(n == -9223372036854775808)=false) (HT:Keep (∀ w,Calls Tryz.prog 50 #[.string s] w fun e w'=>e=.returned (.tuple #[.int .i64 n,.int .i64 0])∧Below w.heap.size w w')) (w:World) (hin:InBox b s w) :
  Calls Tryz.prog 49 #[.pointer (some ⟨b,0,none⟩)] w fun e w'=>e=.returned (.tuple #[.agg #[.int .u8 1,.int .i64 n,.string ⟨#[]⟩],.bool true])∧Below w.heap.size w w':=by
 have hbl:=hin.1
 have H0:=Lib.hid (((Ok.start w).add (kCells b 0 [.string s]) hin).var w.heap.size 23 [.int .u8 0,.int .i64 0,.string ⟨#[]⟩] rfl)
 clear hin
 go_enter Tryz.func49,Tryz.ntmps49
 go_upto_region 1 with fail
 generalize (w.alloc (.cells #[.int .u8 0,.int .i64 0,.string ⟨#[]⟩] 23))=W1 at H0 ⊢
 have F2:=H0.out.sees
 simp only [sees,kVar,kCells,cellsFrom,Nat.add_zero,cellsAt,Nat.reduceAdd] at F2
 obtain ⟨⟨⟨z0,fz0⟩,c00,c01,c02,-⟩,⟨z1,c10,-⟩,-⟩:=F2
 go_wp2_with fail
 refine (HT.out _).mono ?_
 rintro e w3 ⟨rfl,hb4⟩
 clear z0 fz0 c00 c01 c02 z1 c10
 have H5:=Lib.hid (H0.out.below hb4)
 clear hb4 H0
 have F6:=H5.out.sees
 simp only [sees,kVar,kCells,cellsFrom,Nat.add_zero,cellsAt,Nat.reduceAdd] at F6
 obtain ⟨⟨⟨z0,fz0⟩,c00,c01,c02,-⟩,⟨z1,c10,-⟩,-⟩:=F6
 go_wp2_with fail
 refine (val_MakeN n hn _).mono ?_
 rintro e w7 ⟨rfl,hb8⟩
 clear z0 fz0 c00 c01 c02 z1 c10
 have H9:=Lib.hid (H5.out.below hb8)
 clear hb8 H5
 have F10:=H9.out.sees
 simp only [sees,kVar,kCells,cellsFrom,Nat.add_zero,cellsAt,Nat.reduceAdd] at F10
 obtain ⟨⟨⟨z0,fz0⟩,c00,c01,c02,-⟩,⟨z1,c10,-⟩,-⟩:=F10
 go_wp2_with fail
 have hfar:∀ x∈[kCells b 0 [.string s]],x.far (some w.heap.size):=by
  intro x hx
  simp only [List.mem_cons,List.not_mem_nil,or_false] at hx
  subst hx
  show some b≠some w.heap.size
  intro h
  injection h
  omega
 have HE:=Lib.hid (((H9.out.set_ (i:=0) (u:=.int .u8 1) (by omega) hfar).set_ (i:=1) (u:=.int .i64 n) (by omega) hfar).set_ (i:=2) (u:=.string ⟨#[]⟩) (by omega) hfar)
 have F9:=HE.out.sees
 simp only [sees,kVar,kCells,cellsFrom,Nat.add_zero,cellsAt,Nat.reduceAdd,List.set_cons_succ,List.set_cons_zero] at F9
 obtain ⟨⟨⟨y0,g0⟩,r0,r1,r2,-⟩,-⟩:=F9
 exact bodyPost_ret (v:=.tuple #[.agg #[.int .u8 1,.int .i64 n,.string ⟨#[]⟩],.bool true]) (by simp [results,Tryz.results49,go_sem,r0,r1,r2]) rfl ⟨rfl,HE.out.bel⟩
theorem cl5_n (s:ByteArray) (b:Nat) (HT:Keep (∀ w,Calls Tryz.prog 50 #[.string s] w fun e w'=>e=.returned (.tuple #[.int .i64 0,.int .i64 4])∧Below w.heap.size w w')) (w:World) (hin:InBox b s w) :
  Calls Tryz.prog 49 #[.pointer (some ⟨b,0,none⟩)] w fun e w'=>e=.returned (.tuple #[.agg #[.int .u8 1,.int .i64 0,.string ⟨#[]⟩],.bool false])∧Below w.heap.size w w':=by
 have hbl:=hin.1
 have H0:=Lib.hid (((Ok.start w).add (kCells b 0 [.string s]) hin).var w.heap.size 23 [.int .u8 0,.int .i64 0,.string ⟨#[]⟩] rfl)
 clear hin
 go_enter Tryz.func49,Tryz.ntmps49
 go_upto_region 1 with fail
 generalize (w.alloc (.cells #[.int .u8 0,.int .i64 0,.string ⟨#[]⟩] 23))=W1 at H0 ⊢
 have F2:=H0.out.sees
 simp only [sees,kVar,kCells,cellsFrom,Nat.add_zero,cellsAt,Nat.reduceAdd] at F2
 obtain ⟨⟨⟨z0,fz0⟩,c00,c01,c02,-⟩,⟨z1,c10,-⟩,-⟩:=F2
 go_wp2_with fail
 refine (HT.out _).mono ?_
 rintro e w3 ⟨rfl,hb4⟩
 clear z0 fz0 c00 c01 c02 z1 c10
 have H5:=Lib.hid (H0.out.below hb4)
 clear hb4 H0
 have F6:=H5.out.sees
 simp only [sees,kVar,kCells,cellsFrom,Nat.add_zero,cellsAt,Nat.reduceAdd] at F6
 obtain ⟨⟨⟨z0,fz0⟩,c00,c01,c02,-⟩,⟨z1,c10,-⟩,-⟩:=F6
 go_wp2_with fail
 refine (val_MakeN 0 (by decide) _).mono ?_
 rintro e w7 ⟨rfl,hb8⟩
 clear z0 fz0 c00 c01 c02 z1 c10
 have H9:=Lib.hid (H5.out.below hb8)
 clear hb8 H5
 have F10:=H9.out.sees
 simp only [sees,kVar,kCells,cellsFrom,Nat.add_zero,cellsAt,Nat.reduceAdd] at F10
 obtain ⟨⟨⟨z0,fz0⟩,c00,c01,c02,-⟩,⟨z1,c10,-⟩,-⟩:=F10
 go_wp2_with fail
 have hfar:∀ x∈[kCells b 0 [.string s]],x.far (some w.heap.size):=by
  intro x hx
  simp only [List.mem_cons,List.not_mem_nil,or_false] at hx
  subst hx
  show some b≠some w.heap.size
  intro h
  injection h
  omega
 have HE:=Lib.hid (((H9.out.set_ (i:=0) (u:=.int .u8 1) (by omega) hfar).set_ (i:=1) (u:=.int .i64 0) (by omega) hfar).set_ (i:=2) (u:=.string ⟨#[]⟩) (by omega) hfar)
 have F9:=HE.out.sees
 simp only [sees,kVar,kCells,cellsFrom,Nat.add_zero,cellsAt,Nat.reduceAdd,List.set_cons_succ,List.set_cons_zero] at F9
 obtain ⟨⟨⟨y0,g0⟩,r0,r1,r2,-⟩,-⟩:=F9
 exact bodyPost_ret (v:=.tuple #[.agg #[.int .u8 1,.int .i64 0,.string ⟨#[]⟩],.bool false]) (by simp [results,Tryz.results49,go_sem,r0,r1,r2]) rfl ⟨rfl,HE.out.bel⟩
abbrev Vl:=Nat×Int×List UInt8
def tryS (k:Nat) (l:List UInt8):Vl×Bool :=
 if k=0 then ((0,0,[]),l.isEmpty)
 else if k=1 then ((3,0,Lib.trimPrefix l [39]),Lib.hasPrefix l [39])
 else if k=2 then (if l.map upB=trueB then ((2,1,[]),true) else if l.map upB=falseB then ((2,0,[]),true) else ((4,2,[]),false))
 else if k=3 then (if codeS l=0 then ((4,2,[]),false) else ((4,(codeS l:Int),[]),decide (codeS l≤5)))
 else if (parD l).2=3 then ((4,3,[]),true) else ((1,(parD l).1,[]),decide ((parD l).2=0))
theorem tryS_2 (l:List UInt8):tryS 2 l=if l.map upB=trueB then ((2,1,[]),true) else if l.map upB=falseB then ((2,0,[]),true) else ((4,2,[]),false):=rfl
theorem tryS_3 (l:List UInt8):tryS 3 l=if codeS l=0 then ((4,2,[]),false) else ((4,(codeS l:Int),[]),decide (codeS l≤5)):=rfl
theorem tryS_4 (l:List UInt8):tryS 4 l=if (parD l).2=3 then ((4,3,[]),true) else ((1,(parD l).1,[]),decide ((parD l).2=0)):=rfl
def constK (l:List UInt8):Nat→Nat→Vl
 | 0,_=>(3,0,l)
 | n+1,k=>if (tryS k l).2=true then (tryS k l).1 else constK l n (k+1)
def constS (l:List UInt8):Vl:=constK l 5 0
theorem const_no {l:List UInt8}:∀ k,k≤5→(∀ j,j<k→(tryS j l).2=false)→constS l=constK l (5 - k) k
 | 0,_,_=>rfl
 | k+1,h,hj=>by
  rw [const_no k (by omega) fun j hjk=>hj j (by omega),show 5 - k=5 - (k+1)+1 by omega,constK,if_neg (by rw [hj k (Nat.lt_succ_self k)]; decide)]
theorem const_at {l:List UInt8} {k:Nat} (h:k<5) (hj:∀ j,j<k→(tryS j l).2=false) (hk:(tryS k l).2=true):constS l=(tryS k l).1:=by
 rw [const_no k (by omega) hj,show 5 - k=5 - (k+1)+1 by omega,constK,if_pos hk]
theorem const_text {l:List UInt8} (hj:∀ j,j<5→(tryS j l).2=false):constS l=(3,0,l):=const_no 5 (Nat.le_refl _) hj
theorem parD_err (l:List UInt8):(parD l).2=0∨parD l=(0,3)∨parD l=(0,4):=by
 unfold parD
 split
 ·exact .inr (.inr rfl)
 ·split
  ·exact .inr (.inr rfl)
  ·split
   ·exact .inl rfl
   ·exact .inr (.inl rfl)
theorem parD_range (l:List UInt8) : -9223372036854775807≤(parD l).1∧(parD l).1≤9223372036854775807:=by
 unfold parD
 split
 ·exact ⟨by decide,by decide⟩
 ·split
  ·exact ⟨by decide,by decide⟩
  ·rename_i p _
   generalize magD ((unsgD l).takeWhile isDig) p=M
   by_cases h:M≤mostN
   ·rw [if_pos h]
    unfold mostN at h
    by_cases h2:l.head?=some 45
    ·rw [if_pos h2]
     exact ⟨by show _≤-(M:Int); omega,by show -(M:Int)≤_; omega⟩
    ·rw [if_neg h2]
     exact ⟨by show _≤(M:Int); omega,by show (M:Int)≤_; omega⟩
   ·rw [if_neg h]
    exact ⟨by decide,by decide⟩
structure Mn where
 f:Bool
 v:Vl
 t:List Nd
def Mn.none:Mn:=⟨false,(0,0,[]),[]⟩
def meanS (l:List UInt8):Mn×Int×Int :=
 if 256<l.length then (Mn.none,0,5)
 else match l.findIdx? (fun b=>!plainB b) with
 | some i=>(Mn.none,i,4)
 | none => if l.head? = some 61 then
   (if (formS l.tail).2.2=0 then (⟨true,(0,0,[]),(formS l.tail).1⟩,0,0) else (Mn.none,(formS l.tail).2.1+1,(formS l.tail).2.2))
   else (⟨false,constS l,[]⟩,0,0)
theorem mean_long {l:List UInt8} (h:256<l.length):meanS l=(Mn.none,0,5):=if_pos h
theorem plain_none {l:List UInt8}:l.findIdx? (fun b=>!plainB b)=none↔l.all plainB=true:=by
 rw [List.findIdx?_eq_none_iff,List.all_eq_true]
 simp
theorem mean_byte {l:List UInt8} {k:Nat} (h:¬ 256<l.length) (hk:k<l.length) (h1:∀ b∈l.take k,plainB b=true) (h2:plainB l[k]=false):meanS l=(Mn.none,(k:Int),4):=by
 have e:l.findIdx? (fun b=>!plainB b)=some k:=by
  rw [List.findIdx?_eq_some_iff_getElem]
  refine ⟨hk,by simp [h2],fun j hj => ?_⟩
  have h9:=h1 l[j] (by
   have : (l.take k)[j]'(by rw [List.length_take]; omega) = l[j]:=List.getElem_take ..
   rw [← this]
   exact List.getElem_mem _)
  simp [h9]
 unfold meanS
 rw [if_neg h,e]
theorem mean_const {l:List UInt8} (h:¬ 256<l.length) (h1:l.all plainB=true) (h2:l.head?≠some 61):meanS l=(⟨false,constS l,[]⟩,0,0):=by
 unfold meanS
 rw [if_neg h,plain_none.2 h1]
 simp only []
 rw [if_neg h2]
theorem mean_form {l:List UInt8} (h:¬ 256<l.length) (h1:l.all plainB=true) (h2:l.head?=some 61) (h3:(formS l.tail).2.2=0):meanS l=(⟨true,(0,0,[]),(formS l.tail).1⟩,0,0):=by
 unfold meanS
 rw [if_neg h,plain_none.2 h1]
 simp only []
 rw [if_pos h2,if_pos h3]
theorem mean_fault {l:List UInt8} (h:¬ 256<l.length) (h1:l.all plainB=true) (h2:l.head?=some 61) (h3:(formS l.tail).2.2≠0):meanS l=(Mn.none,(formS l.tail).2.1+1,(formS l.tail).2.2):=by
 unfold meanS
 rw [if_neg h,plain_none.2 h1]
 simp only []
 rw [if_pos h2,if_neg h3]
