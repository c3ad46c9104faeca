/- The reference shows truth values and numbers. The reference shows numbers. val.Truth, val.ToBool at a text, val.Make. val.Code at any string. -/
import Derived.Test.YtdplcdhpnmcdjaaGreatDoorERvk
import Derived.Test.YtdplcdhpnmcdjaaGreatDoorETg
import Derived.Test.YtdplcdhpnmcdjaaGreatDoorEShw
import Derived.Test.YtdplcdhpnmcdjaaGreatDoorELexC
import Derived.Test.YtdplcdhpnmcdjaaGreatDoorEParP
namespace Go.Proofs.YtdplcdhpnmcdjaaGreatDoor
set_option maxRecDepth 100000
set_option maxHeartbeats 4000000
open Go.RowKit Go.Proofs.Tryz
def kX (n:Int):List UInt8:=if n=1 then c6 else cf
theorem qy (n:Int) (h:n=0∨n=1) (w:World) :
  Calls prog 131 #[.int .i64 n] w fun e w'=>e=.returned (.string ⟨(kX n).toArray⟩)∧w'=w:=by
 rcases h with rfl | rfl
 ·go_enter func131,ntmps131
  go_wp2_with fail
  go_ret
  exact ⟨rfl,rfl⟩
 go_enter func131,ntmps131
 go_wp2_with fail
 go_ret
 exact ⟨rfl,rfl⟩
theorem oM {n:Int} (h:n=0∨n=1):bm 2 n []=0:=aF (.inr (.inr (.inl ⟨rfl,rfl,h⟩)))
theorem lH (n:Int) (hn:n=0∨n=1) (w:World) :
  Calls prog 77 #[.agg #[.int .u8 2,.int .i64 n,.string ⟨#[]⟩]] w fun e w'=>e=.returned (.agg #[.int .u8 3,.int .i64 0,.string ⟨(kX n).toArray⟩])∧Below w.heap.size w w':=by
 have HN:=keep hn
 clear hn
 have H1:=Lib.hid (((Ok.start w).alloc w.heap.size 35 [.int .u8 2,.int .i64 n,.string ⟨#[]⟩] rfl).var (w.heap.size+1) 35 [.int .u8 0,.int .i64 0,.string ⟨#[]⟩] (by simp))
 go_enter func77,ntmps77
 go_wp2_with fail
 generalize ((w.alloc (.cells #[.int .u8 2,.int .i64 n,.string ⟨#[]⟩] 35)).alloc (.cells #[.int .u8 0,.int .i64 0,.string ⟨#[]⟩] 35))=W2 at H1 ⊢
 refine cM (bK 2 n ⟨#[]⟩ (by decide) (by rcases HN.out with rfl | rfl <;> decide) _) H1 fun w3 H5=>?_
 rw [show bm 2 n (⟨#[]⟩:ByteArray).data.toList=0 from oM HN.out]
 clear H1
 have F6:=sE H5
 go_wp2_with fail
 refine (qy n HN.out _).mono ?_
 rintro e wz ⟨rfl,hwz⟩
 obtain rfl:w3=wz:=hwz.symm
 go_wp2_with fail
 have hK:=H5.out.get (af (w.heap.size+1) 35 [.int .u8 0,.int .i64 0,.string ⟨#[]⟩]) (by simp)
 have hB:=H5.out.bel
 have hE:=((((show Blk w3 (w.heap.size+1) 35 _ from hK).set_ 0 (.int .u8 3)).set_ 1 (.int .i64 0)).set_ 2 (.string ⟨(kX n).toArray⟩))
 exact bodyPost_ret (v:=.agg #[.int .u8 3,.int .i64 0,.string ⟨(kX n).toArray⟩]) (by simp [results,results77,go_sem,hE.cell]) rfl ⟨rfl,(sC (sC (sC hB _) _) _)⟩
theorem og (n:Int) (hn:n=0∨n=1) (w:World) :
  Calls prog 42 #[.agg #[.int .u8 2,.int .i64 n,.string ⟨#[]⟩]] w fun e w'=>e=.returned (.string ⟨(kX n).toArray⟩)∧Below w.heap.size w w':=by
 have HN:=keep hn
 clear hn
 have H1:=Lib.hid ((Ok.start w).alloc w.heap.size 35 [.int .u8 2,.int .i64 n,.string ⟨#[]⟩] rfl)
 go_enter func42,ntmps42
 go_wp2_with fail
 generalize (w.alloc (.cells #[.int .u8 2,.int .i64 n,.string ⟨#[]⟩] 35))=W2 at H1 ⊢
 refine wp_region_held_drew (S:=fun W=>Ok w [ac (w.heap.size) 35 [.int .u8 2,.int .i64 n,.string ⟨#[]⟩]] W) (by kernel_rfl) H1.out.drew (fun hHeld => ?_)
 refine wt3 0 ?_
 refine wal 1 fun K hK => ?_
 go_simp
 refine (cJ _).mono ?_
 rintro e w4 ⟨rfl,hb5⟩
 go_wp2_with fail
 refine hK.out _ _ (hHeld.below hb5) (fun hHeld => ?_)
 clear hK K
 refine wn ?_
 refine wt3 2 ?_
 refine wpAnyH_done (by kernel_rfl) ?_ _
 clear H1
 have H6:=Lib.hid hHeld
 clear hHeld
 have F7:=sE H6
 go_wp2_with fail
 refine cM (bK 2 n ⟨#[]⟩ (by decide) (by rcases HN.out with rfl | rfl <;> decide) _) H6 fun w8 H10=>?_
 rw [show bm 2 n (⟨#[]⟩:ByteArray).data.toList=0 from oM HN.out]
 clear F7 H6
 have F11:=sE H10
 go_wp2_with fail
 refine cM (lH n HN.out _) H10 fun w12 H14=>?_
 clear F11 H10
 have F15:=sE H14
 obtain ⟨X,hX⟩:∃ X:ByteArray,X=⟨(kX n).toArray⟩:=⟨_,rfl⟩
 rw [← hX]
 have HX:=keep hX
 clear hX
 have hfi:(Instr.field 35 (.agg #[.int .u8 3,.int .i64 0,.string X]) 2).run prog w12=.ok (.string X) w12:=by kernel_rfl
 go_wp2_with fail
 go_ret
 exact ⟨by rw [← HX.out]; rfl,H14.out.bel⟩
set_option maxRecDepth 100000
set_option maxHeartbeats 4000000
theorem o8 {n:Int} (h : -9223372036854775807≤n):bm 1 n []=0:=aF (.inr (.inl ⟨rfl,rfl,by omega⟩))
theorem lI (n:Int) (hn : -9223372036854775807≤n∧n≤9223372036854775807) (w:World) :
  Calls prog 77 #[.agg #[.int .u8 1,.int .i64 n,.string ⟨#[]⟩]] w fun e w'=>e=.returned (.agg #[.int .u8 3,.int .i64 0,.string ⟨(cD n).toArray⟩])∧Below w.heap.size w w':=by
 have HN:=keep hn
 clear hn
 have H1:=Lib.hid (((Ok.start w).alloc w.heap.size 35 [.int .u8 1,.int .i64 n,.string ⟨#[]⟩] rfl).var (w.heap.size+1) 35 [.int .u8 0,.int .i64 0,.string ⟨#[]⟩] (by simp))
 go_enter func77,ntmps77
 go_wp2_with fail
 generalize ((w.alloc (.cells #[.int .u8 1,.int .i64 n,.string ⟨#[]⟩] 35)).alloc (.cells #[.int .u8 0,.int .i64 0,.string ⟨#[]⟩] 35))=W2 at H1 ⊢
 refine cM (bK 1 n ⟨#[]⟩ (by decide) (by have:=HN.out; omega) _) H1 fun w3 H5=>?_
 rw [show bm 1 n (⟨#[]⟩:ByteArray).data.toList=0 from o8 HN.out.1]
 clear H1
 have F6:=sE H5
 go_wp2_with fail
 refine cM (mM n _ (by have:=HN.out; omega) HN.out.2) H5 fun wz H5b=>?_
 clear F6 H5
 have H5:=H5b
 clear H5b
 have F6:=sE H5
 go_wp2_with fail
 have hK:=H5.out.get (af (w.heap.size+1) 35 [.int .u8 0,.int .i64 0,.string ⟨#[]⟩]) (by simp)
 have hB:=H5.out.bel
 have hE:=((((show Blk wz (w.heap.size+1) 35 _ from hK).set_ 0 (.int .u8 3)).set_ 1 (.int .i64 0)).set_ 2 (.string ⟨(cD n).toArray⟩))
 exact bodyPost_ret (v:=.agg #[.int .u8 3,.int .i64 0,.string ⟨(cD n).toArray⟩]) (by simp [results,results77,go_sem,hE.cell]) rfl ⟨rfl,(sC (sC (sC hB _) _) _)⟩
theorem oh (n:Int) (hn : -9223372036854775807≤n∧n≤9223372036854775807) (w:World) :
  Calls prog 42 #[.agg #[.int .u8 1,.int .i64 n,.string ⟨#[]⟩]] w fun e w'=>e=.returned (.string ⟨(cD n).toArray⟩)∧Below w.heap.size w w':=by
 have HN:=keep hn
 clear hn
 have H1:=Lib.hid ((Ok.start w).alloc w.heap.size 35 [.int .u8 1,.int .i64 n,.string ⟨#[]⟩] rfl)
 go_enter func42,ntmps42
 go_wp2_with fail
 generalize (w.alloc (.cells #[.int .u8 1,.int .i64 n,.string ⟨#[]⟩] 35))=W2 at H1 ⊢
 refine wp_region_held_drew (S:=fun W=>Ok w [ac (w.heap.size) 35 [.int .u8 1,.int .i64 n,.string ⟨#[]⟩]] W) (by kernel_rfl) H1.out.drew (fun hHeld => ?_)
 refine wt3 0 ?_
 refine wal 1 fun K hK => ?_
 go_simp
 refine (cJ _).mono ?_
 rintro e w4 ⟨rfl,hb5⟩
 go_wp2_with fail
 refine hK.out _ _ (hHeld.below hb5) (fun hHeld => ?_)
 clear hK K
 refine wn ?_
 refine wt3 2 ?_
 refine wpAnyH_done (by kernel_rfl) ?_ _
 clear H1
 have H6:=Lib.hid hHeld
 clear hHeld
 have F7:=sE H6
 go_wp2_with fail
 refine cM (bK 1 n ⟨#[]⟩ (by decide) (by have:=HN.out; omega) _) H6 fun w8 H10=>?_
 rw [show bm 1 n (⟨#[]⟩:ByteArray).data.toList=0 from o8 HN.out.1]
 clear F7 H6
 have F11:=sE H10
 go_wp2_with fail
 refine cM (lI n HN.out _) H10 fun w12 H14=>?_
 clear F11 H10
 have F15:=sE H14
 obtain ⟨X,hX⟩:∃ X:ByteArray,X=⟨(cD n).toArray⟩:=⟨_,rfl⟩
 rw [← hX]
 have HX:=keep hX
 clear hX
 have hfi:(Instr.field 35 (.agg #[.int .u8 3,.int .i64 0,.string X]) 2).run prog w12=.ok (.string X) w12:=by kernel_rfl
 go_wp2_with fail
 go_ret
 exact ⟨by rw [← HX.out]; rfl,H14.out.bel⟩
set_option maxRecDepth 100000
set_option maxHeartbeats 4000000
theorem oG  (w:World) :
  Calls prog 206 #[.bool true] w fun e w'=>e=.returned (.agg #[.int .u8 2,.int .i64 1,.string ⟨#[]⟩])∧Below w.heap.size w w':=by
 have H1:=Lib.hid ((Ok.start w).var w.heap.size 35 [.int .u8 2,.int .i64 1,.string ⟨#[]⟩] rfl)
 go_enter func206,ntmps206
 go_wp2_with fail
 generalize (w.alloc (.cells #[.int .u8 2,.int .i64 1,.string ⟨#[]⟩] 35))=W2 at H1 ⊢
 have F3:=H1.out.sees
 simp only [sees,af,aa,Nat.reduceAdd] at F3
 obtain ⟨⟨⟨z0,fz0⟩,c00,c01,c02,-⟩,-⟩:=F3
 exact bodyPost_ret (v:=.agg #[.int .u8 2,.int .i64 1,.string ⟨#[]⟩]) (by simp [results,results206,go_sem,c00,c01,c02]) rfl ⟨rfl,H1.out.bel⟩
theorem oF  (w:World) :
  Calls prog 206 #[.bool false] w fun e w'=>e=.returned (.agg #[.int .u8 2,.int .i64 0,.string ⟨#[]⟩])∧Below w.heap.size w w':=by
 have H1:=Lib.hid ((Ok.start w).var w.heap.size 35 [.int .u8 2,.int .i64 0,.string ⟨#[]⟩] rfl)
 go_enter func206,ntmps206
 go_wp2_with fail
 generalize (w.alloc (.cells #[.int .u8 2,.int .i64 0,.string ⟨#[]⟩] 35))=W2 at H1 ⊢
 have F3:=H1.out.sees
 simp only [sees,af,aa,Nat.reduceAdd] at F3
 obtain ⟨⟨⟨z0,fz0⟩,c00,c01,c02,-⟩,-⟩:=F3
 exact bodyPost_ret (v:=.agg #[.int .u8 2,.int .i64 0,.string ⟨#[]⟩]) (by simp [results,results206,go_sem,c00,c01,c02]) rfl ⟨rfl,H1.out.bel⟩
theorem kU (n:Int) (h:(n == -9223372036854775808)=false) (w:World) :
  Calls prog 124 #[.int .i64 n] w fun e w'=>e=.returned (.agg #[.int .u8 1,.int .i64 n,.string ⟨#[]⟩])∧Below w.heap.size w w':=by
 have H1:=Lib.hid ((Ok.start w).var w.heap.size 35 [.int .u8 1,.int .i64 n,.string ⟨#[]⟩] rfl)
 go_enter func124,ntmps124
 go_wp2_with fail
 generalize (w.alloc (.cells #[.int .u8 1,.int .i64 n,.string ⟨#[]⟩] 35))=W2 at H1 ⊢
 have F3:=H1.out.sees
 simp only [sees,af,aa,Nat.reduceAdd] at F3
 obtain ⟨⟨⟨z0,fz0⟩,c00,c01,c02,-⟩,-⟩:=F3
 exact bodyPost_ret (v:=.agg #[.int .u8 1,.int .i64 n,.string ⟨#[]⟩]) (by simp [results,results124,go_sem,c00,c01,c02]) rfl ⟨rfl,H1.out.bel⟩
theorem uW (s X:ByteArray) (HUP:ao (∀ w,Calls prog 164 #[.string s] w fun e w'=>e=.returned (.string X)∧Below w.heap.size w w')) (hX:X=⟨#[84,82,85,69]⟩) (w:World) :
  Calls prog 178 #[.agg #[.int .u8 3,.int .i64 0,.string s]] w fun e w'=>e=.returned (.agg #[.int .u8 2,.int .i64 1,.string ⟨#[]⟩])∧Below w.heap.size w w':=by
 subst hX
 have H1:=Lib.hid (((Ok.start w).alloc w.heap.size 152 [.int .u8 3,.int .i64 0,.string s] rfl).var (w.heap.size+1) 35 [.int .u8 0,.int .i64 0,.string ⟨#[]⟩] (by simp))
 go_enter func178,ntmps178
 go_wp2_with fail
 generalize ((w.alloc (.cells #[.int .u8 3,.int .i64 0,.string s] 152)).alloc (.cells #[.int .u8 0,.int .i64 0,.string ⟨#[]⟩] 35))=W2 at H1 ⊢
 have F3:=sE H1
 refine cM (HUP.out _) H1 fun w4 H6=>?_
 clear F3 H1
 have F7:=sE H6
 go_wp2_with fail
 refine cM (oG _) H6 fun w8 H10=>?_
 clear F7 H6
 have F11:=sE H10
 go_wp2_with fail
 have hfar:∀ x∈[ac (w.heap.size) 152 [.int .u8 3,.int .i64 0,.string s]],x.far (some (w.heap.size+1)):=by
  intro x hx
  rw [List.mem_singleton] at hx
  subst hx
  show some w.heap.size≠some (w.heap.size+1)
  simp
 have HE:=Lib.hid (((H10.out.set_ (i:=0) (u:=.int .u8 2) (by omega) hfar).set_ (i:=1) (u:=.int .i64 1) (by omega) hfar).set_ (i:=2) (u:=.string ⟨#[]⟩) (by omega) hfar)
 have F9:=HE.out.sees
 simp only [sees,af,ac,aa,Nat.reduceAdd,List.set_cons_succ,List.set_cons_zero] at F9
 obtain ⟨⟨⟨y0,g0⟩,q0,q1,q2,-⟩,-⟩:=F9
 exact bodyPost_ret (v:=.agg #[.int .u8 2,.int .i64 1,.string ⟨#[]⟩]) (by simp [results,results178,go_sem,q0,q1,q2]) rfl ⟨rfl,HE.out.bel⟩
theorem uU (s X:ByteArray) (HUP:ao (∀ w,Calls prog 164 #[.string s] w fun e w'=>e=.returned (.string X)∧Below w.heap.size w w')) (hX:X=⟨#[70,65,76,83,69]⟩) (w:World) :
  Calls prog 178 #[.agg #[.int .u8 3,.int .i64 0,.string s]] w fun e w'=>e=.returned (.agg #[.int .u8 2,.int .i64 0,.string ⟨#[]⟩])∧Below w.heap.size w w':=by
 subst hX
 have H1:=Lib.hid (((Ok.start w).alloc w.heap.size 152 [.int .u8 3,.int .i64 0,.string s] rfl).var (w.heap.size+1) 35 [.int .u8 0,.int .i64 0,.string ⟨#[]⟩] (by simp))
 go_enter func178,ntmps178
 go_wp2_with fail
 generalize ((w.alloc (.cells #[.int .u8 3,.int .i64 0,.string s] 152)).alloc (.cells #[.int .u8 0,.int .i64 0,.string ⟨#[]⟩] 35))=W2 at H1 ⊢
 have F3:=sE H1
 refine cM (HUP.out _) H1 fun w4 H6=>?_
 clear F3 H1
 have F7:=sE H6
 go_wp2_with fail
 refine cM (oF _) H6 fun w8 H10=>?_
 clear F7 H6
 have F11:=sE H10
 go_wp2_with fail
 have hfar:∀ x∈[ac (w.heap.size) 152 [.int .u8 3,.int .i64 0,.string s]],x.far (some (w.heap.size+1)):=by
  intro x hx
  rw [List.mem_singleton] at hx
  subst hx
  show some w.heap.size≠some (w.heap.size+1)
  simp
 have HE:=Lib.hid (((H10.out.set_ (i:=0) (u:=.int .u8 2) (by omega) hfar).set_ (i:=1) (u:=.int .i64 0) (by omega) hfar).set_ (i:=2) (u:=.string ⟨#[]⟩) (by omega) hfar)
 have F9:=HE.out.sees
 simp only [sees,af,ac,aa,Nat.reduceAdd,List.set_cons_succ,List.set_cons_zero] at F9
 obtain ⟨⟨⟨y0,g0⟩,q0,q1,q2,-⟩,-⟩:=F9
 exact bodyPost_ret (v:=.agg #[.int .u8 2,.int .i64 0,.string ⟨#[]⟩]) (by simp [results,results178,go_sem,q0,q1,q2]) rfl ⟨rfl,HE.out.bel⟩
theorem uV (s X:ByteArray) (HUP:ao (∀ w,Calls prog 164 #[.string s] w fun e w'=>e=.returned (.string X)∧Below w.heap.size w w')) (h1:(X.toList == [84,82,85,69])=false) (h2:(X.toList == [70,65,76,83,69])=false) (w:World) :
  Calls prog 178 #[.agg #[.int .u8 3,.int .i64 0,.string s]] w fun e w'=>e=.returned (.agg #[.int .u8 4,.int .i64 2,.string ⟨#[]⟩])∧Below w.heap.size w w':=by
 have H1:=Lib.hid (((Ok.start w).alloc w.heap.size 152 [.int .u8 3,.int .i64 0,.string s] rfl).var (w.heap.size+1) 35 [.int .u8 0,.int .i64 0,.string ⟨#[]⟩] (by simp))
 go_enter func178,ntmps178
 go_wp2_with fail
 generalize ((w.alloc (.cells #[.int .u8 3,.int .i64 0,.string s] 152)).alloc (.cells #[.int .u8 0,.int .i64 0,.string ⟨#[]⟩] 35))=W2 at H1 ⊢
 have F3:=sE H1
 refine cM (HUP.out _) H1 fun w4 H6=>?_
 clear F3 H1
 have F7:=sE H6
 go_wp2_with fail
 refine cM (aU 2 (by decide) (by decide) _) H6 fun w8 H10=>?_
 clear F7 H6
 have F11:=sE H10
 go_wp2_with fail
 have hfar:∀ x∈[ac (w.heap.size) 152 [.int .u8 3,.int .i64 0,.string s]],x.far (some (w.heap.size+1)):=by
  intro x hx
  rw [List.mem_singleton] at hx
  subst hx
  show some w.heap.size≠some (w.heap.size+1)
  simp
 have HE:=Lib.hid (((H10.out.set_ (i:=0) (u:=.int .u8 4) (by omega) hfar).set_ (i:=1) (u:=.int .i64 2) (by omega) hfar).set_ (i:=2) (u:=.string ⟨#[]⟩) (by omega) hfar)
 have F9:=HE.out.sees
 simp only [sees,af,ac,aa,Nat.reduceAdd,List.set_cons_succ,List.set_cons_zero] at F9
 obtain ⟨⟨⟨y0,g0⟩,q0,q1,q2,-⟩,-⟩:=F9
 exact bodyPost_ret (v:=.agg #[.int .u8 4,.int .i64 2,.string ⟨#[]⟩]) (by simp [results,results178,go_sem,q0,q1,q2]) rfl ⟨rfl,HE.out.bel⟩
def xj (v:Value):Array MapEntry:=#[{ key:=.int .u8 0,val:=bnd 177 v,born:=0 },{ key:=.int .u8 1,val:=bnd 177 v,born:=1 },{ key:=.int .u8 2,val:=bnd 127 v,born:=2 },{ key:=.int .u8 3,val:=bnd 178 v,born:=3 },{ key:=.int .u8 4,val:=bnd 127 v,born:=4 }]
theorem zc (v:Value) (w:World):(Instr.mapUpdate 153 (.map (some w.heap.size)) (.int .u8 0) (.func (.func 177) #[v] #[])).run prog (w.alloc (.map #[] 0))=.ok () (w.alloc (.map #[{ key:=.int .u8 0,val:=bnd 177 v,born:=0 }] 1)) :=
 bb _ _ _ _ dR dQ _ _ _ _ (by simp [MapKept.IsKey]) rfl w
theorem zd (v:Value) (w:World):(Instr.mapUpdate 153 (.map (some w.heap.size)) (.int .u8 1) (.func (.func 177) #[v] #[])).run prog (w.alloc (.map #[{ key:=.int .u8 0,val:=bnd 177 v,born:=0 }] 1))=.ok () (w.alloc (.map #[{ key:=.int .u8 0,val:=bnd 177 v,born:=0 },{ key:=.int .u8 1,val:=bnd 177 v,born:=1 }] 2)) :=
 bb _ _ _ _ dR dQ _ _ _ _ (by simp [MapKept.IsKey]) rfl w
theorem ze (v:Value) (w:World):(Instr.mapUpdate 153 (.map (some w.heap.size)) (.int .u8 2) (.func (.func 127) #[v] #[])).run prog (w.alloc (.map #[{ key:=.int .u8 0,val:=bnd 177 v,born:=0 },{ key:=.int .u8 1,val:=bnd 177 v,born:=1 }] 2))=.ok () (w.alloc (.map #[{ key:=.int .u8 0,val:=bnd 177 v,born:=0 },{ key:=.int .u8 1,val:=bnd 177 v,born:=1 },{ key:=.int .u8 2,val:=bnd 127 v,born:=2 }] 3)) :=
 bb _ _ _ _ dR dQ _ _ _ _ (by simp [MapKept.IsKey]) rfl w
theorem zf (v:Value) (w:World):(Instr.mapUpdate 153 (.map (some w.heap.size)) (.int .u8 3) (.func (.func 178) #[v] #[])).run prog (w.alloc (.map #[{ key:=.int .u8 0,val:=bnd 177 v,born:=0 },{ key:=.int .u8 1,val:=bnd 177 v,born:=1 },{ key:=.int .u8 2,val:=bnd 127 v,born:=2 }] 3))=.ok () (w.alloc (.map #[{ key:=.int .u8 0,val:=bnd 177 v,born:=0 },{ key:=.int .u8 1,val:=bnd 177 v,born:=1 },{ key:=.int .u8 2,val:=bnd 127 v,born:=2 },{ key:=.int .u8 3,val:=bnd 178 v,born:=3 }] 4)) :=
 bb _ _ _ _ dR dQ _ _ _ _ (by simp [MapKept.IsKey]) rfl w
theorem zg (v:Value) (w:World):(Instr.mapUpdate 153 (.map (some w.heap.size)) (.int .u8 4) (.func (.func 127) #[v] #[])).run prog (w.alloc (.map #[{ key:=.int .u8 0,val:=bnd 177 v,born:=0 },{ key:=.int .u8 1,val:=bnd 177 v,born:=1 },{ key:=.int .u8 2,val:=bnd 127 v,born:=2 },{ key:=.int .u8 3,val:=bnd 178 v,born:=3 }] 4))=.ok () (w.alloc (.map #[{ key:=.int .u8 0,val:=bnd 177 v,born:=0 },{ key:=.int .u8 1,val:=bnd 177 v,born:=1 },{ key:=.int .u8 2,val:=bnd 127 v,born:=2 },{ key:=.int .u8 3,val:=bnd 178 v,born:=3 },{ key:=.int .u8 4,val:=bnd 127 v,born:=4 }] 5)) :=
 bb _ _ _ _ dR dQ _ _ _ _ (by simp [MapKept.IsKey]) rfl w
theorem vp (s:ByteArray) (w:World) :
  Calls prog 176 #[.agg #[.int .u8 3,.int .i64 0,.string s]] w fun e w'=>∃ r,e=.returned (.map (some r))∧w'.heap[r]?=some (.map (xj (.agg #[.int .u8 3,.int .i64 0,.string s])) 5)∧Below w.heap.size w w':=by
 have hmm:=@run_makeMap prog
 have t0:=zc (.agg #[.int .u8 3,.int .i64 0,.string s])
 have t1:=zd (.agg #[.int .u8 3,.int .i64 0,.string s])
 have t2:=ze (.agg #[.int .u8 3,.int .i64 0,.string s])
 have t3:=zf (.agg #[.int .u8 3,.int .i64 0,.string s])
 have t4:=zg (.agg #[.int .u8 3,.int .i64 0,.string s])
 obtain ⟨P,hP⟩:∃ P:Ending→World→Prop,(fun (e:Ending) (w':World)=>∃ r,e=.returned (.map (some r))∧w'.heap[r]?=some (.map (xj (.agg #[.int .u8 3,.int .i64 0,.string s])) 5)∧Below w.heap.size w w')=P:=⟨_,rfl⟩
 rw [hP]
 have HPP:=keep hP
 clear hP
 have H1:=Lib.hid ((Ok.start w).alloc w.heap.size 152 [.int .u8 3,.int .i64 0,.string s] rfl)
 go_enter func176,ntmps176
 go_upto_region 1 with fail
 generalize (w.alloc (.cells #[.int .u8 3,.int .i64 0,.string s] 152))=W2 at H1 ⊢
 have F3:=sE H1
 go_wp2_with fail
 first
  | go_ret
  | skip
 rw [← HPP.out]
 exact ⟨_,rfl,d9 _ _,(H1.out.alloc_obj _).bel⟩
theorem lM (s:ByteArray) (r0 r1:Int) (HSZ:Hid (s.size≤4611686018427387904)) (hv:bm 3 0 s.data.toList=0) (HN:ao (∀ w,Calls prog 178 #[.agg #[.int .u8 3,.int .i64 0,.string s]] w fun e w'=>e=.returned (.agg #[.int .u8 r0,.int .i64 r1,.string ⟨#[]⟩])∧Below w.heap.size w w')) (w:World) :
  Calls prog 119 #[.agg #[.int .u8 3,.int .i64 0,.string s]] w fun e w'=>e=.returned (.agg #[.int .u8 r0,.int .i64 r1,.string ⟨#[]⟩])∧Below w.heap.size w w':=by
 have H1:=Lib.hid (((Ok.start w).alloc w.heap.size 35 [.int .u8 3,.int .i64 0,.string s] rfl).var (w.heap.size+1) 35 [.int .u8 0,.int .i64 0,.string ⟨#[]⟩] (by simp))
 go_enter func119,ntmps119
 go_wp2_with fail
 generalize ((w.alloc (.cells #[.int .u8 3,.int .i64 0,.string s] 35)).alloc (.cells #[.int .u8 0,.int .i64 0,.string ⟨#[]⟩] 35))=W2 at H1 ⊢
 have F3:=sE H1
 refine cM (cS 176 178 (xj (.agg #[.int .u8 3,.int .i64 0,.string s])) 3 0 s (.agg #[.int .u8 3,.int .i64 0,.string s]) r0 r1 ⟨#[]⟩ (keep fun w=>vp s w) (keep ⟨by simp [MapKept.IsKey],3,rfl⟩) HN (fun _ _=>by kernel_rfl) (fun _ _=>by kernel_rfl) HSZ hv _) H1 fun w4 H6=>?_
 clear F3 H1
 have F7:=sE H6
 go_wp2_with fail
 have hfar:∀ x∈[ac (w.heap.size) 35 [.int .u8 3,.int .i64 0,.string s]],x.far (some (w.heap.size+1)):=by
  intro x hx
  rw [List.mem_singleton] at hx
  subst hx
  show some w.heap.size≠some (w.heap.size+1)
  simp
 have HE:=Lib.hid (((H6.out.set_ (i:=0) (u:=.int .u8 r0) (by omega) hfar).set_ (i:=1) (u:=.int .i64 r1) (by omega) hfar).set_ (i:=2) (u:=.string ⟨#[]⟩) (by omega) hfar)
 have F9:=HE.out.sees
 simp only [sees,af,ac,aa,Nat.reduceAdd,List.set_cons_succ,List.set_cons_zero] at F9
 obtain ⟨⟨⟨y0,g0⟩,q0,q1,q2,-⟩,-⟩:=F9
 exact bodyPost_ret (v:=.agg #[.int .u8 r0,.int .i64 r1,.string ⟨#[]⟩]) (by simp [results,results119,go_sem,q0,q1,q2]) rfl ⟨rfl,HE.out.bel⟩
theorem rt {l m:List UInt8} (h:l≠m):((⟨l.toArray⟩:ByteArray).toList == m)=false:=by
 rw [ByteArray.toList_mk]
 exact beq_eq_false_iff_ne.2 h
def i6 (l:List UInt8):Int×Int:=if l.map upB=c6 then (2,1) else if l.map upB=cf then (2,0) else (4,2)
theorem m2 (s:ByteArray) (hs:s.size≤4611686018427387904) (hc:aC s.data.toList=0) (w:World) :
  Calls prog 119 #[.agg #[.int .u8 3,.int .i64 0,.string s]] w fun e w'=>e=.returned (.agg #[.int .u8 (i6 s.data.toList).1,.int .i64 (i6 s.data.toList).2,.string ⟨#[]⟩])∧Below w.heap.size w w':=by
 have hv:bm 3 0 s.data.toList=0:=aF (.inr (.inr (.inr (.inl ⟨rfl,rfl,hc⟩))))
 have HUP:=keep fun w=>dY s w hs
 by_cases h1:s.data.toList.map upB=c6
 ·have e:i6 s.data.toList=(2,1):=if_pos h1
  rw [e]
  rw [h1] at HUP
  exact lM s 2 1 (Lib.hid hs) hv (keep fun w=>uW s _ HUP rfl w) w
 by_cases h2:s.data.toList.map upB=cf
 ·have e:i6 s.data.toList=(2,0):=by unfold i6; rw [if_neg h1,if_pos h2]
  rw [e]
  rw [h2] at HUP
  exact lM s 2 0 (Lib.hid hs) hv (keep fun w=>uU s _ HUP rfl w) w
 have e:i6 s.data.toList=(4,2):=by unfold i6; rw [if_neg h1,if_neg h2]
 rw [e]
 exact lM s 4 2 (Lib.hid hs) hv (keep fun w=>uV s _ HUP (rt h1) (rt h2) w) w
set_option maxRecDepth 100000
set_option maxHeartbeats 4000000
def bH (l:List UInt8):Nat:=match (aB.drop 1).idxOf? (l.map upB) with | some k=>k+1 | none=>0
def iL (l:List UInt8):Int:=if bH l=0 then 4 else 0
theorem oO {l:List UInt8} {k:Nat} (h1:1≤k) (h7:k≤7) (h:l.map upB=aB[k]?.getD []):bH l=k:=by
 have key:∀ k:Fin 8,1≤k.1→(aB.drop 1).idxOf? (aB[k.1]?.getD [])=some (k.1 - 1):=by decide
 unfold bH
 rw [h,key ⟨k,by omega⟩ h1]
 show k - 1+1=k
 omega
theorem oQ {l:List UInt8} (h:∀ k,1≤k→k≤7→l.map upB≠aB[k]?.getD []):bH l=0:=by
 unfold bH
 rw [show (aB.drop 1).idxOf? (l.map upB)=none by
  rw [List.idxOf?_eq_none_iff]
  intro hm
  obtain ⟨i,hi,e⟩:=List.mem_iff_getElem.1 hm
  have hi7:i<7:=hi
  refine h (i+1) (by omega) (by omega) ?_
  have key : ∀ j : Fin 7,(aB.drop 1)[j.1]'j.2 = aB[j.1 + 1]?.getD []:=by decide
  rw [← e]
  exact key ⟨i,hi7⟩]
theorem su (a0 a1 a2 a3 a4 a5 a6 a7:Value) (w:World):(Instr.index 105 (.agg #[a0,a1,a2,a3,a4,a5,a6,a7]) (.int .i64 0)).run prog w=.ok a0 w:=by kernel_rfl
theorem sw (a0 a1 a2 a3 a4 a5 a6 a7:Value) (w:World):(Instr.index 105 (.agg #[a0,a1,a2,a3,a4,a5,a6,a7]) (.int .i64 1)).run prog w=.ok a1 w:=by kernel_rfl
theorem sx (a0 a1 a2 a3 a4 a5 a6 a7:Value) (w:World):(Instr.index 105 (.agg #[a0,a1,a2,a3,a4,a5,a6,a7]) (.int .i64 2)).run prog w=.ok a2 w:=by kernel_rfl
theorem sy (a0 a1 a2 a3 a4 a5 a6 a7:Value) (w:World):(Instr.index 105 (.agg #[a0,a1,a2,a3,a4,a5,a6,a7]) (.int .i64 3)).run prog w=.ok a3 w:=by kernel_rfl
theorem sA (a0 a1 a2 a3 a4 a5 a6 a7:Value) (w:World):(Instr.index 105 (.agg #[a0,a1,a2,a3,a4,a5,a6,a7]) (.int .i64 4)).run prog w=.ok a4 w:=by kernel_rfl
theorem sB (a0 a1 a2 a3 a4 a5 a6 a7:Value) (w:World):(Instr.index 105 (.agg #[a0,a1,a2,a3,a4,a5,a6,a7]) (.int .i64 5)).run prog w=.ok a5 w:=by kernel_rfl
theorem sD (a0 a1 a2 a3 a4 a5 a6 a7:Value) (w:World):(Instr.index 105 (.agg #[a0,a1,a2,a3,a4,a5,a6,a7]) (.int .i64 6)).run prog w=.ok a6 w:=by kernel_rfl
theorem sF (a0 a1 a2 a3 a4 a5 a6 a7:Value) (w:World):(Instr.index 105 (.agg #[a0,a1,a2,a3,a4,a5,a6,a7]) (.int .i64 7)).run prog w=.ok a7 w:=by kernel_rfl
theorem qJ (s:ByteArray) (hs:s.size≤4611686018427387904) (w:World) (hw:Words w) :
  Calls prog 121 #[.string s] w fun e w'=>e=.returned (.tuple #[.int .i64 (bH s.data.toList:Nat),.int .i64 (iL s.data.toList)])∧Below w.heap.size w w':=by
 have HUP:=keep fun w=>dY s w hs
 obtain ⟨u,hu⟩:=ex (s.data.toList.map upB)
 rw [hu] at HUP
 have HAT:=keep (fun k h1 h7 h=>oO (l:=s.data.toList) (k:=k) h1 h7 (hu.trans h))
 have HNO:=keep (fun h=>oQ (l:=s.data.toList) (by rw [hu]; exact h))
 obtain ⟨C,hC⟩:=ex (bH s.data.toList)
 obtain ⟨E,hE⟩:=ex (iL s.data.toList)
 have HE:=keep (show E=if C=0 then 4 else 0 by rw [← hE,← hC]; rfl)
 rw [hC] at HAT HNO ⊢
 rw [hE]
 obtain ⟨X,hX⟩:∃ X:ByteArray,⟨u.toArray⟩=X:=⟨_,rfl⟩
 rw [hX] at HUP
 have hXl:X.toList=u:=by rw [← hX]; exact ByteArray.toList_mk u
 have HX:=keep hXl
 have HXX:=keep hX
 have HW:=keep hw
 clear hu hC hE hX hXl hw hs
 go_enter func121,ntmps121
 go_wp2_with fail
 refine (HUP.out _).mono ?_
 rintro e w1 ⟨rfl,hb⟩
 have HB:=Lib.hid hb
 have hw2:=HW.out.below hb
 clear hb HUP
 obtain ⟨hg,hcells⟩:=hw2
 have k0:w1.cell? ⟨0,0,none⟩=some (.string ⟨#[]⟩):=hcells 0 (by decide)
 have k1:w1.cell? ⟨0,1,none⟩=some (.string ⟨#[35,68,73,86,47,48,33]⟩):=hcells 1 (by decide)
 have k2:w1.cell? ⟨0,2,none⟩=some (.string ⟨#[35,86,65,76,85,69,33]⟩):=hcells 2 (by decide)
 have k3:w1.cell? ⟨0,3,none⟩=some (.string ⟨#[35,78,85,77,33]⟩):=hcells 3 (by decide)
 have k4:w1.cell? ⟨0,4,none⟩=some (.string ⟨#[35,78,47,65]⟩):=hcells 4 (by decide)
 have k5:w1.cell? ⟨0,5,none⟩=some (.string ⟨#[35,82,69,70,33]⟩):=hcells 5 (by decide)
 have k6:w1.cell? ⟨0,6,none⟩=some (.string ⟨#[35,67,89,67,76,69,33]⟩):=hcells 6 (by decide)
 have k7:w1.cell? ⟨0,7,none⟩=some (.string ⟨#[35,68,69,78,73,69,68]⟩):=hcells 7 (by decide)
 clear hcells
 go_wp2_with fail
 clear k0 k1 k2 k3 k4 k5 k6 k7 hg
 go_loopw [9] (fun iv wr=>∃ k:Nat,k≤8∧iv=.int .i64 (k:Int)∧ao (∀ j,1≤j→j<k→u≠aB[j]?.getD [])∧wr=w1) (fun iv _=>8 - (intOf iv).toNat)
 case atStart=>exact ⟨0,by omega,rfl,keep (fun j h1 h2=>by omega),rfl⟩
 case round =>
  obtain ⟨k,hk,rfl,HJ,hwr⟩:=hrel
  obtain rfl:w1=wr:=hwr.symm
  have hk':k=0∨k=1∨k=2∨k=3∨k=4∨k=5∨k=6∨k=7∨k=8:=by omega
  rcases hk' with rfl | rfl | rfl | rfl | rfl | rfl | rfl | rfl | rfl
  ·have hix:=su
   go_wp2_with fail
   go_roundw
   case rel=>exact ⟨1,by decide,rfl,keep (fun j h1 h2=>by omega),by first | trivial | rfl⟩
   case measure=>simp [intOf]
  ·have hix:=sw
   by_cases he:u=[35,68,73,86,47,48,33]
   ·have HC:=keep (HAT.out 1 (by decide) (by decide) he)
    have hx:X=⟨#[35,68,73,86,47,48,33]⟩:=by rw [← HXX.out,he]
    subst hx
    clear he
    go_wp2_with fail
    exact bodyPost_ret (v:=.tuple #[.int .i64 1,.int .i64 0]) (by simp [results,results121,go_sem]) rfl ⟨by rw [HE.out,HC.out]; rfl,HB.out⟩
   have hx1:(X.toList == [35,68,73,86,47,48,33])=false:=by rw [HX.out]; exact beq_eq_false_iff_ne.2 he
   have hx2:([35,68,73,86,47,48,33] == X.toList)=false:=by rw [HX.out]; exact beq_eq_false_iff_ne.2 (fun h=>he h.symm)
   have HN:=keep he
   clear he
   go_wp2_with fail
   go_roundw
   case rel=>exact ⟨2,by decide,rfl,keep (fun j h1 h2=>by
    by_cases hj:j=1
    ·subst hj; exact HN.out
    exact HJ.out j h1 (by omega)),by first | trivial | rfl⟩
   case measure=>simp [intOf]
  ·have hix:=sx
   by_cases he:u=[35,86,65,76,85,69,33]
   ·have HC:=keep (HAT.out 2 (by decide) (by decide) he)
    have hx:X=⟨#[35,86,65,76,85,69,33]⟩:=by rw [← HXX.out,he]
    subst hx
    clear he
    go_wp2_with fail
    exact bodyPost_ret (v:=.tuple #[.int .i64 2,.int .i64 0]) (by simp [results,results121,go_sem]) rfl ⟨by rw [HE.out,HC.out]; rfl,HB.out⟩
   have hx1:(X.toList == [35,86,65,76,85,69,33])=false:=by rw [HX.out]; exact beq_eq_false_iff_ne.2 he
   have hx2:([35,86,65,76,85,69,33] == X.toList)=false:=by rw [HX.out]; exact beq_eq_false_iff_ne.2 (fun h=>he h.symm)
   have HN:=keep he
   clear he
   go_wp2_with fail
   go_roundw
   case rel=>exact ⟨3,by decide,rfl,keep (fun j h1 h2=>by
    by_cases hj:j=2
    ·subst hj; exact HN.out
    exact HJ.out j h1 (by omega)),by first | trivial | rfl⟩
   case measure=>simp [intOf]
  ·have hix:=sy
   by_cases he:u=[35,78,85,77,33]
   ·have HC:=keep (HAT.out 3 (by decide) (by decide) he)
    have hx:X=⟨#[35,78,85,77,33]⟩:=by rw [← HXX.out,he]
    subst hx
    clear he
    go_wp2_with fail
    exact bodyPost_ret (v:=.tuple #[.int .i64 3,.int .i64 0]) (by simp [results,results121,go_sem]) rfl ⟨by rw [HE.out,HC.out]; rfl,HB.out⟩
   have hx1:(X.toList == [35,78,85,77,33])=false:=by rw [HX.out]; exact beq_eq_false_iff_ne.2 he
   have hx2:([35,78,85,77,33] == X.toList)=false:=by rw [HX.out]; exact beq_eq_false_iff_ne.2 (fun h=>he h.symm)
   have HN:=keep he
   clear he
   go_wp2_with fail
   go_roundw
   case rel=>exact ⟨4,by decide,rfl,keep (fun j h1 h2=>by
    by_cases hj:j=3
    ·subst hj; exact HN.out
    exact HJ.out j h1 (by omega)),by first | trivial | rfl⟩
   case measure=>simp [intOf]
  ·have hix:=sA
   by_cases he:u=[35,78,47,65]
   ·have HC:=keep (HAT.out 4 (by decide) (by decide) he)
    have hx:X=⟨#[35,78,47,65]⟩:=by rw [← HXX.out,he]
    subst hx
    clear he
    go_wp2_with fail
    exact bodyPost_ret (v:=.tuple #[.int .i64 4,.int .i64 0]) (by simp [results,results121,go_sem]) rfl ⟨by rw [HE.out,HC.out]; rfl,HB.out⟩
   have hx1:(X.toList == [35,78,47,65])=false:=by rw [HX.out]; exact beq_eq_false_iff_ne.2 he
   have hx2:([35,78,47,65] == X.toList)=false:=by rw [HX.out]; exact beq_eq_false_iff_ne.2 (fun h=>he h.symm)
   have HN:=keep he
   clear he
   go_wp2_with fail
   go_roundw
   case rel=>exact ⟨5,by decide,rfl,keep (fun j h1 h2=>by
    by_cases hj:j=4
    ·subst hj; exact HN.out
    exact HJ.out j h1 (by omega)),by first | trivial | rfl⟩
   case measure=>simp [intOf]
  ·have hix:=sB
   by_cases he:u=[35,82,69,70,33]
   ·have HC:=keep (HAT.out 5 (by decide) (by decide) he)
    have hx:X=⟨#[35,82,69,70,33]⟩:=by rw [← HXX.out,he]
    subst hx
    clear he
    go_wp2_with fail
    exact bodyPost_ret (v:=.tuple #[.int .i64 5,.int .i64 0]) (by simp [results,results121,go_sem]) rfl ⟨by rw [HE.out,HC.out]; rfl,HB.out⟩
   have hx1:(X.toList == [35,82,69,70,33])=false:=by rw [HX.out]; exact beq_eq_false_iff_ne.2 he
   have hx2:([35,82,69,70,33] == X.toList)=false:=by rw [HX.out]; exact beq_eq_false_iff_ne.2 (fun h=>he h.symm)
   have HN:=keep he
   clear he
   go_wp2_with fail
   go_roundw
   case rel=>exact ⟨6,by decide,rfl,keep (fun j h1 h2=>by
    by_cases hj:j=5
    ·subst hj; exact HN.out
    exact HJ.out j h1 (by omega)),by first | trivial | rfl⟩
   case measure=>simp [intOf]
  ·have hix:=sD
   by_cases he:u=[35,67,89,67,76,69,33]
   ·have HC:=keep (HAT.out 6 (by decide) (by decide) he)
    have hx:X=⟨#[35,67,89,67,76,69,33]⟩:=by rw [← HXX.out,he]
    subst hx
    clear he
    go_wp2_with fail
    exact bodyPost_ret (v:=.tuple #[.int .i64 6,.int .i64 0]) (by simp [results,results121,go_sem]) rfl ⟨by rw [HE.out,HC.out]; rfl,HB.out⟩
   have hx1:(X.toList == [35,67,89,67,76,69,33])=false:=by rw [HX.out]; exact beq_eq_false_iff_ne.2 he
   have hx2:([35,67,89,67,76,69,33] == X.toList)=false:=by rw [HX.out]; exact beq_eq_false_iff_ne.2 (fun h=>he h.symm)
   have HN:=keep he
   clear he
   go_wp2_with fail
   go_roundw
   case rel=>exact ⟨7,by decide,rfl,keep (fun j h1 h2=>by
    by_cases hj:j=6
    ·subst hj; exact HN.out
    exact HJ.out j h1 (by omega)),by first | trivial | rfl⟩
   case measure=>simp [intOf]
  ·have hix:=sF
   by_cases he:u=[35,68,69,78,73,69,68]
   ·have HC:=keep (HAT.out 7 (by decide) (by decide) he)
    have hx:X=⟨#[35,68,69,78,73,69,68]⟩:=by rw [← HXX.out,he]
    subst hx
    clear he
    go_wp2_with fail
    exact bodyPost_ret (v:=.tuple #[.int .i64 7,.int .i64 0]) (by simp [results,results121,go_sem]) rfl ⟨by rw [HE.out,HC.out]; rfl,HB.out⟩
   have hx1:(X.toList == [35,68,69,78,73,69,68])=false:=by rw [HX.out]; exact beq_eq_false_iff_ne.2 he
   have hx2:([35,68,69,78,73,69,68] == X.toList)=false:=by rw [HX.out]; exact beq_eq_false_iff_ne.2 (fun h=>he h.symm)
   have HN:=keep he
   clear he
   go_wp2_with fail
   go_roundw
   case rel=>exact ⟨8,by decide,rfl,keep (fun j h1 h2=>by
    by_cases hj:j=7
    ·subst hj; exact HN.out
    exact HJ.out j h1 (by omega)),by first | trivial | rfl⟩
   case measure=>simp [intOf]
  have HC:=keep (HNO.out fun k h1 h7=>HJ.out k h1 (by omega))
  go_wp2_with fail
  exact bodyPost_ret (v:=.tuple #[.int .i64 0,.int .i64 4]) (by simp [results,results121,go_sem]) rfl ⟨by rw [HE.out,HC.out]; rfl,HB.out⟩
