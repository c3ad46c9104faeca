/- show.Literal and show.own. -/
import Derived.Test.YtfffihcadhfplaaGreatDoorPShn
import Derived.Test.YtfffihcadhfplaaGreatDoorPIterV
import Derived.Test.YtfffihcadhfplaaGreatDoorPForB
namespace Go.Proofs.YtfffihcadhfplaaGreatDoor
set_option maxRecDepth 100000
set_option maxHeartbeats 4000000
open Go.RowKit
def valA (k:Nat) (n:Int) (t:List UInt8):NdA:=⟨1,k,n,t,R4.zero,0,0,0⟩
theorem rows_one {w:World} {b:Nat} {a:NdA} (h:Blk w b 96 (aRow a).toArray):RowsAt w (some ⟨b,0,none⟩) 11 ([a].map aRow):=by
 intro _
 refine ⟨b,0,rfl,h.lt,fun i r hi j v hj => ?_⟩
 cases i with
 | zero =>
  obtain rfl:=Option.some.inj hi
  rw [h.cell,Nat.zero_mul,Nat.zero_add,Nat.zero_add]
  simpa using hj
 | succ i=>cases hi
theorem check_one (k:Nat) (n:Int) (t:List UInt8):(goodV k n t→checkA [valA k n t]=0)∧(¬ goodV k n t→checkA [valA k n t]≠0):=by
 constructor
 ·intro h
  have hg:goodNd ⟨1,k,n,t,R4.zero,0,0,0⟩:=.inl ⟨k,n,t,rfl,h⟩
  have e:[valA k n t]=[(⟨1,k,n,t,R4.zero,0,0,0⟩:Nd)].map Nd.any:=rfl
  rw [e,checkA_any (by intro x hx; rw [List.mem_singleton] at hx; subst hx; exact hg)]
  rfl
 ·intro h h0
  have:=(checkA_zero h0).1 (valA k n t) (by simp)
  have:=(fields_zero this).1
  rcases this with ⟨vk,vn,vt,e,hv⟩ | ⟨r,e,_⟩ | ⟨r,e,_⟩ | e | e | ⟨op,e,_⟩ | ⟨fn,k,e,_⟩
  ·have e1:k=vk:=congrArg Nd.vk e
   have e2:n=vn:=congrArg Nd.vn e
   have e3:t=vt:=congrArg Nd.vt e
   rw [e1,e2,e3] at h
   exact h hv
  all_goals (have:=congrArg Nd.kind e; simp [valA,NdA.nd,ndRef,ndRange,ndNeg,ndPct,ndBin,ndCall] at this)
open Classical in
noncomputable def litS (k:Nat) (n:Int) (t:List UInt8):List UInt8×Int:=if goodV k n t then (tkT (tkV ⟨1,k,n,t,R4.zero,0,0,0⟩),0) else ([],2)
theorem lit_yes {k:Nat} {n:Int} {t:List UInt8} (h:goodV k n t):litS k n t=(tkT (tkV ⟨1,k,n,t,R4.zero,0,0,0⟩),0):=if_pos h
theorem lit_no {k:Nat} {n:Int} {t:List UInt8} (h:¬ goodV k n t):litS k n t=([],2):=if_neg h
theorem lit_bad (k:Nat) (n:Int) (t:List UInt8) (ht:t.length≤4611686018427387904) (hg:¬ goodV k n t) (w:World) :
  Calls Tryz.prog 120 #[.agg #[.int .u8 (k:Nat),.int .i64 n,.string ⟨t.toArray⟩]] w fun e w'=>e=.returned (.tuple #[.string ⟨#[]⟩,.int .i64 2])∧Below w.heap.size w w':=by
 have HTX:=keep ht
 have HCK:=keep ((check_one k n t).2 hg)
 clear ht hg
 have H1:=Lib.hid (((Ok.start w).alloc w.heap.size 23 [.int .u8 (k:Nat),.int .i64 n,.string ⟨t.toArray⟩] rfl).alloc (w.heap.size+1) 96 [.int .u8 1,.int .u8 (k:Nat),.int .i64 n,.string ⟨t.toArray⟩,.int .i64 0,.int .i64 0,.int .i64 0,.int .i64 0,.int .i64 0,.int .u8 0,.int .i64 0] (by simp))
 go_enter Tryz.func120,Tryz.ntmps120
 go_wp2_with fail
 generalize ((w.alloc (.cells #[.int .u8 (k:Nat),.int .i64 n,.string ⟨t.toArray⟩] 23)).alloc (.cells #[.int .u8 1,.int .u8 (k:Nat),.int .i64 n,.string ⟨t.toArray⟩,.int .i64 0,.int .i64 0,.int .i64 0,.int .i64 0,.int .i64 0,.int .u8 0,.int .i64 0] 96))=W2 at H1 ⊢
 have HRW:=keep (rows_one (a:=(valA k n t)) (show Blk _ _ _ _ from H1.out.get (kBlk (w.heap.size+1) 96 [.int .u8 1,.int .u8 (k:Nat),.int .i64 n,.string ⟨t.toArray⟩,.int .i64 0,.int .i64 0,.int .i64 0,.int .i64 0,.int .i64 0,.int .u8 0,.int .i64 0]) (by simp)))
 refine (tree_CheckA [(valA k n t)] (some ⟨w.heap.size+1,0,none⟩) 1 _ HRW.out (by show 1≤1000; decide) (by intro x hx; rw [List.mem_singleton] at hx; subst hx; exact HTX.out)).mono ?_
 rintro e w3 ⟨rfl,hb4⟩
 have H5:=Lib.hid (H1.out.below hb4)
 clear hb4 H1
 have F6:=H5.out.sees
 simp only [sees,kBlk,cellsAt,Nat.reduceAdd] at F6
 obtain ⟨⟨z0,c00,c01,c02,c03,c04,c05,c06,c07,c08,c09,c0a,-⟩,⟨z1,c10,c11,c12,-⟩,-⟩:=F6
 obtain ⟨c,hc⟩:∃ c,checkA [(valA k n t)]=c:=⟨_,rfl⟩
 rw [hc]
 have hc0:(c != 0)=true:=by rw [← hc]; simpa using HCK.out
 clear hc
 go_wp2_with fail
 exact bodyPost_ret (v:=.tuple #[.string ⟨#[]⟩,.int .i64 2]) (by simp [results,Tryz.results120,go_sem]) rfl ⟨rfl,H5.out.bel⟩
theorem lit_num (n:Int) (h0:0≤n) (h2:n≤9223372036854775807) (w:World) :
  Calls Tryz.prog 120 #[.agg #[.int .u8 1,.int .i64 n,.string ⟨#[]⟩]] w fun e w'=>e=.returned (.tuple #[.string ⟨(decS n).toArray⟩,.int .i64 0])∧Below w.heap.size w w':=by
 have HTX:=keep (show (([]:List UInt8)).length≤4611686018427387904 by decide)
 have HCK:=keep ((check_one 1 n []).1 (.inl ⟨rfl,h0,rfl⟩))
 have H1:=Lib.hid (((Ok.start w).alloc w.heap.size 23 [.int .u8 1,.int .i64 n,.string ⟨#[]⟩] rfl).alloc (w.heap.size+1) 96 [.int .u8 1,.int .u8 1,.int .i64 n,.string ⟨#[]⟩,.int .i64 0,.int .i64 0,.int .i64 0,.int .i64 0,.int .i64 0,.int .u8 0,.int .i64 0] (by simp))
 go_enter Tryz.func120,Tryz.ntmps120
 go_wp2_with fail
 generalize ((w.alloc (.cells #[.int .u8 1,.int .i64 n,.string ⟨#[]⟩] 23)).alloc (.cells #[.int .u8 1,.int .u8 1,.int .i64 n,.string ⟨#[]⟩,.int .i64 0,.int .i64 0,.int .i64 0,.int .i64 0,.int .i64 0,.int .u8 0,.int .i64 0] 96))=W2 at H1 ⊢
 have HRW:=keep (rows_one (a:=(valA 1 n [])) (show Blk _ _ _ _ from H1.out.get (kBlk (w.heap.size+1) 96 [.int .u8 1,.int .u8 1,.int .i64 n,.string ⟨#[]⟩,.int .i64 0,.int .i64 0,.int .i64 0,.int .i64 0,.int .i64 0,.int .u8 0,.int .i64 0]) (by simp)))
 refine (tree_CheckA [(valA 1 n [])] (some ⟨w.heap.size+1,0,none⟩) 1 _ HRW.out (by show 1≤1000; decide) (by intro x hx; rw [List.mem_singleton] at hx; subst hx; exact HTX.out)).mono ?_
 rintro e w3 ⟨rfl,hb4⟩
 have H5:=Lib.hid (H1.out.below hb4)
 clear hb4 H1
 have F6:=H5.out.sees
 simp only [sees,kBlk,cellsAt,Nat.reduceAdd] at F6
 obtain ⟨⟨z0,c00,c01,c02,c03,c04,c05,c06,c07,c08,c09,c0a,-⟩,⟨z1,c10,c11,c12,-⟩,-⟩:=F6
 rw [HCK.out]
 go_wp2_with fail
 refine (dec_Format n _ (by omega) h2).mono ?_
 rintro e w7 ⟨rfl,hb8⟩
 clear z0 c00 c01 c02 c03 c04 c05 c06 c07 c08 c09 c0a z1 c10 c11 c12
 have H9:=Lib.hid (H5.out.below hb8)
 clear hb8 H5
 have F10:=H9.out.sees
 simp only [sees,kBlk,cellsAt,Nat.reduceAdd] at F10
 obtain ⟨⟨z0,c00,c01,c02,c03,c04,c05,c06,c07,c08,c09,c0a,-⟩,⟨z1,c10,c11,c12,-⟩,-⟩:=F10
 go_wp2_with fail
 exact bodyPost_ret (v:=.tuple #[.string ⟨(decS n).toArray⟩,.int .i64 0]) (by simp [results,Tryz.results120,go_sem]) rfl ⟨rfl,H9.out.bel⟩
theorem lit_yes_  (w:World) :
  Calls Tryz.prog 120 #[.agg #[.int .u8 2,.int .i64 1,.string ⟨#[]⟩]] w fun e w'=>e=.returned (.tuple #[.string ⟨#[84,82,85,69]⟩,.int .i64 0])∧Below w.heap.size w w':=by
 have HTX:=keep (show (([]:List UInt8)).length≤4611686018427387904 by decide)
 have HCK:=keep ((check_one 2 1 []).1 (.inr (.inl ⟨rfl,by decide,rfl⟩)))
 have H1:=Lib.hid (((Ok.start w).alloc w.heap.size 23 [.int .u8 2,.int .i64 1,.string ⟨#[]⟩] rfl).alloc (w.heap.size+1) 96 [.int .u8 1,.int .u8 2,.int .i64 1,.string ⟨#[]⟩,.int .i64 0,.int .i64 0,.int .i64 0,.int .i64 0,.int .i64 0,.int .u8 0,.int .i64 0] (by simp))
 go_enter Tryz.func120,Tryz.ntmps120
 go_wp2_with fail
 generalize ((w.alloc (.cells #[.int .u8 2,.int .i64 1,.string ⟨#[]⟩] 23)).alloc (.cells #[.int .u8 1,.int .u8 2,.int .i64 1,.string ⟨#[]⟩,.int .i64 0,.int .i64 0,.int .i64 0,.int .i64 0,.int .i64 0,.int .u8 0,.int .i64 0] 96))=W2 at H1 ⊢
 have HRW:=keep (rows_one (a:=(valA 2 1 [])) (show Blk _ _ _ _ from H1.out.get (kBlk (w.heap.size+1) 96 [.int .u8 1,.int .u8 2,.int .i64 1,.string ⟨#[]⟩,.int .i64 0,.int .i64 0,.int .i64 0,.int .i64 0,.int .i64 0,.int .u8 0,.int .i64 0]) (by simp)))
 refine (tree_CheckA [(valA 2 1 [])] (some ⟨w.heap.size+1,0,none⟩) 1 _ HRW.out (by show 1≤1000; decide) (by intro x hx; rw [List.mem_singleton] at hx; subst hx; exact HTX.out)).mono ?_
 rintro e w3 ⟨rfl,hb4⟩
 have H5:=Lib.hid (H1.out.below hb4)
 clear hb4 H1
 have F6:=H5.out.sees
 simp only [sees,kBlk,cellsAt,Nat.reduceAdd] at F6
 obtain ⟨⟨z0,c00,c01,c02,c03,c04,c05,c06,c07,c08,c09,c0a,-⟩,⟨z1,c10,c11,c12,-⟩,-⟩:=F6
 rw [HCK.out]
 go_wp2_with fail
 refine (show_21 (by decide) (valE_yes (.inr (.inr (.inl ⟨rfl,rfl,by decide⟩)))) _).mono ?_
 rintro e w7 ⟨rfl,hb8⟩
 clear z0 c00 c01 c02 c03 c04 c05 c06 c07 c08 c09 c0a z1 c10 c11 c12
 have H9:=Lib.hid (H5.out.below hb8)
 clear hb8 H5
 have F10:=H9.out.sees
 simp only [sees,kBlk,cellsAt,Nat.reduceAdd] at F10
 obtain ⟨⟨z0,c00,c01,c02,c03,c04,c05,c06,c07,c08,c09,c0a,-⟩,⟨z1,c10,c11,c12,-⟩,-⟩:=F10
 go_wp2_with fail
 exact bodyPost_ret (v:=.tuple #[.string ⟨#[84,82,85,69]⟩,.int .i64 0]) (by simp [results,Tryz.results120,go_sem]) rfl ⟨rfl,H9.out.bel⟩
theorem lit_no_  (w:World) :
  Calls Tryz.prog 120 #[.agg #[.int .u8 2,.int .i64 0,.string ⟨#[]⟩]] w fun e w'=>e=.returned (.tuple #[.string ⟨#[70,65,76,83,69]⟩,.int .i64 0])∧Below w.heap.size w w':=by
 have HTX:=keep (show (([]:List UInt8)).length≤4611686018427387904 by decide)
 have HCK:=keep ((check_one 2 0 []).1 (.inr (.inl ⟨rfl,by decide,rfl⟩)))
 have H1:=Lib.hid (((Ok.start w).alloc w.heap.size 23 [.int .u8 2,.int .i64 0,.string ⟨#[]⟩] rfl).alloc (w.heap.size+1) 96 [.int .u8 1,.int .u8 2,.int .i64 0,.string ⟨#[]⟩,.int .i64 0,.int .i64 0,.int .i64 0,.int .i64 0,.int .i64 0,.int .u8 0,.int .i64 0] (by simp))
 go_enter Tryz.func120,Tryz.ntmps120
 go_wp2_with fail
 generalize ((w.alloc (.cells #[.int .u8 2,.int .i64 0,.string ⟨#[]⟩] 23)).alloc (.cells #[.int .u8 1,.int .u8 2,.int .i64 0,.string ⟨#[]⟩,.int .i64 0,.int .i64 0,.int .i64 0,.int .i64 0,.int .i64 0,.int .u8 0,.int .i64 0] 96))=W2 at H1 ⊢
 have HRW:=keep (rows_one (a:=(valA 2 0 [])) (show Blk _ _ _ _ from H1.out.get (kBlk (w.heap.size+1) 96 [.int .u8 1,.int .u8 2,.int .i64 0,.string ⟨#[]⟩,.int .i64 0,.int .i64 0,.int .i64 0,.int .i64 0,.int .i64 0,.int .u8 0,.int .i64 0]) (by simp)))
 refine (tree_CheckA [(valA 2 0 [])] (some ⟨w.heap.size+1,0,none⟩) 1 _ HRW.out (by show 1≤1000; decide) (by intro x hx; rw [List.mem_singleton] at hx; subst hx; exact HTX.out)).mono ?_
 rintro e w3 ⟨rfl,hb4⟩
 have H5:=Lib.hid (H1.out.below hb4)
 clear hb4 H1
 have F6:=H5.out.sees
 simp only [sees,kBlk,cellsAt,Nat.reduceAdd] at F6
 obtain ⟨⟨z0,c00,c01,c02,c03,c04,c05,c06,c07,c08,c09,c0a,-⟩,⟨z1,c10,c11,c12,-⟩,-⟩:=F6
 rw [HCK.out]
 go_wp2_with fail
 refine (show_20 (by decide) (valE_yes (.inr (.inr (.inl ⟨rfl,rfl,by decide⟩)))) _).mono ?_
 rintro e w7 ⟨rfl,hb8⟩
 clear z0 c00 c01 c02 c03 c04 c05 c06 c07 c08 c09 c0a z1 c10 c11 c12
 have H9:=Lib.hid (H5.out.below hb8)
 clear hb8 H5
 have F10:=H9.out.sees
 simp only [sees,kBlk,cellsAt,Nat.reduceAdd] at F10
 obtain ⟨⟨z0,c00,c01,c02,c03,c04,c05,c06,c07,c08,c09,c0a,-⟩,⟨z1,c10,c11,c12,-⟩,-⟩:=F10
 go_wp2_with fail
 exact bodyPost_ret (v:=.tuple #[.string ⟨#[70,65,76,83,69]⟩,.int .i64 0]) (by simp [results,Tryz.results120,go_sem]) rfl ⟨rfl,H9.out.bel⟩
theorem lit_err (c:Int) (h1:1≤c) (h5:c≤5) (w:World) (HW:Hid (Words w)) :
  Calls Tryz.prog 120 #[.agg #[.int .u8 4,.int .i64 c,.string ⟨#[]⟩]] w fun e w'=>e=.returned (.tuple #[.string ⟨(allNames[c.toNat]?.getD []).toArray⟩,.int .i64 0])∧Below w.heap.size w w':=by
 have HTX:=keep (show (([]:List UInt8)).length≤4611686018427387904 by decide)
 have HCK:=keep ((check_one 4 c []).1 (.inr (.inr (.inr ⟨rfl,⟨h1,h5⟩,rfl⟩))))
 have H1:=Lib.hid (((Ok.start w).alloc w.heap.size 23 [.int .u8 4,.int .i64 c,.string ⟨#[]⟩] rfl).alloc (w.heap.size+1) 96 [.int .u8 1,.int .u8 4,.int .i64 c,.string ⟨#[]⟩,.int .i64 0,.int .i64 0,.int .i64 0,.int .i64 0,.int .i64 0,.int .u8 0,.int .i64 0] (by simp))
 go_enter Tryz.func120,Tryz.ntmps120
 go_wp2_with fail
 generalize ((w.alloc (.cells #[.int .u8 4,.int .i64 c,.string ⟨#[]⟩] 23)).alloc (.cells #[.int .u8 1,.int .u8 4,.int .i64 c,.string ⟨#[]⟩,.int .i64 0,.int .i64 0,.int .i64 0,.int .i64 0,.int .i64 0,.int .u8 0,.int .i64 0] 96))=W2 at H1 ⊢
 have HRW:=keep (rows_one (a:=(valA 4 c [])) (show Blk _ _ _ _ from H1.out.get (kBlk (w.heap.size+1) 96 [.int .u8 1,.int .u8 4,.int .i64 c,.string ⟨#[]⟩,.int .i64 0,.int .i64 0,.int .i64 0,.int .i64 0,.int .i64 0,.int .u8 0,.int .i64 0]) (by simp)))
 refine (tree_CheckA [(valA 4 c [])] (some ⟨w.heap.size+1,0,none⟩) 1 _ HRW.out (by show 1≤1000; decide) (by intro x hx; rw [List.mem_singleton] at hx; subst hx; exact HTX.out)).mono ?_
 rintro e w3 ⟨rfl,hb4⟩
 have H5:=Lib.hid (H1.out.below hb4)
 clear hb4 H1
 have F6:=H5.out.sees
 simp only [sees,kBlk,cellsAt,Nat.reduceAdd] at F6
 obtain ⟨⟨z0,c00,c01,c02,c03,c04,c05,c06,c07,c08,c09,c0a,-⟩,⟨z1,c10,c11,c12,-⟩,-⟩:=F6
 rw [HCK.out]
 go_wp2_with fail
 refine (show_err c h1 (by omega) _ (Words.below HW.out (below_step (Below.refl _ _) H5.out.bel))).mono ?_
 rintro e w7 ⟨rfl,hb8⟩
 clear z0 c00 c01 c02 c03 c04 c05 c06 c07 c08 c09 c0a z1 c10 c11 c12
 have H9:=Lib.hid (H5.out.below hb8)
 clear hb8 H5
 have F10:=H9.out.sees
 simp only [sees,kBlk,cellsAt,Nat.reduceAdd] at F10
 obtain ⟨⟨z0,c00,c01,c02,c03,c04,c05,c06,c07,c08,c09,c0a,-⟩,⟨z1,c10,c11,c12,-⟩,-⟩:=F10
 go_wp2_with fail
 exact bodyPost_ret (v:=.tuple #[.string ⟨(allNames[c.toNat]?.getD []).toArray⟩,.int .i64 0]) (by simp [results,Tryz.results120,go_sem]) rfl ⟨rfl,H9.out.bel⟩
theorem lit_txt (t:List UInt8) (h:t.length≤256) (hp:t.all plainB=true) (w:World) (HW:Hid (WEnv w)) :
  Calls Tryz.prog 120 #[.agg #[.int .u8 3,.int .i64 0,.string ⟨t.toArray⟩]] w fun e w'=>e=.returned (.tuple #[.string ⟨(quoteS t).toArray⟩,.int .i64 0])∧Below w.heap.size w w':=by
 have HTX:=keep (show t.length≤4611686018427387904 by omega)
 have HCK:=keep ((check_one 3 0 t).1 (.inr (.inr (.inl ⟨rfl,rfl,h,hp⟩))))
 have HC0:=keep (show checkT t=0 by unfold checkT; rw [if_neg (by omega),if_pos hp])
 clear h hp
 have H1:=Lib.hid (((Ok.start w).alloc w.heap.size 23 [.int .u8 3,.int .i64 0,.string ⟨t.toArray⟩] rfl).alloc (w.heap.size+1) 96 [.int .u8 1,.int .u8 3,.int .i64 0,.string ⟨t.toArray⟩,.int .i64 0,.int .i64 0,.int .i64 0,.int .i64 0,.int .i64 0,.int .u8 0,.int .i64 0] (by simp))
 go_enter Tryz.func120,Tryz.ntmps120
 go_wp2_with fail
 generalize ((w.alloc (.cells #[.int .u8 3,.int .i64 0,.string ⟨t.toArray⟩] 23)).alloc (.cells #[.int .u8 1,.int .u8 3,.int .i64 0,.string ⟨t.toArray⟩,.int .i64 0,.int .i64 0,.int .i64 0,.int .i64 0,.int .i64 0,.int .u8 0,.int .i64 0] 96))=W2 at H1 ⊢
 have HRW:=keep (rows_one (a:=(valA 3 0 t)) (show Blk _ _ _ _ from H1.out.get (kBlk (w.heap.size+1) 96 [.int .u8 1,.int .u8 3,.int .i64 0,.string ⟨t.toArray⟩,.int .i64 0,.int .i64 0,.int .i64 0,.int .i64 0,.int .i64 0,.int .u8 0,.int .i64 0]) (by simp)))
 refine (tree_CheckA [(valA 3 0 t)] (some ⟨w.heap.size+1,0,none⟩) 1 _ HRW.out (by show 1≤1000; decide) (by intro x hx; rw [List.mem_singleton] at hx; subst hx; exact HTX.out)).mono ?_
 rintro e w3 ⟨rfl,hb4⟩
 have H5:=Lib.hid (H1.out.below hb4)
 clear hb4 H1
 have F6:=H5.out.sees
 simp only [sees,kBlk,cellsAt,Nat.reduceAdd] at F6
 obtain ⟨⟨z0,c00,c01,c02,c03,c04,c05,c06,c07,c08,c09,c0a,-⟩,⟨z1,c10,c11,c12,-⟩,-⟩:=F6
 rw [HCK.out]
 go_wp2_with fail
 refine (glyph_Quote ⟨t.toArray⟩ _ HTX.out ((HW.out.below (below_step (Below.refl _ _) H5.out.bel)).2.2)).mono ?_
 rintro e w7 ⟨rfl,hb8⟩
 rw [show quoteT (⟨t.toArray⟩:ByteArray).data.toList=quoteS t from if_pos HC0.out,show checkT (⟨t.toArray⟩:ByteArray).data.toList=0 from HC0.out]
 clear z0 c00 c01 c02 c03 c04 c05 c06 c07 c08 c09 c0a z1 c10 c11 c12
 have H9:=Lib.hid (H5.out.below hb8)
 clear hb8 H5
 have F10:=H9.out.sees
 simp only [sees,kBlk,cellsAt,Nat.reduceAdd] at F10
 obtain ⟨⟨z0,c00,c01,c02,c03,c04,c05,c06,c07,c08,c09,c0a,-⟩,⟨z1,c10,c11,c12,-⟩,-⟩:=F10
 go_wp2_with fail
 exact bodyPost_ret (v:=.tuple #[.string ⟨(quoteS t).toArray⟩,.int .i64 0]) (by simp [results,Tryz.results120,go_sem]) rfl ⟨rfl,H9.out.bel⟩
theorem err_all (c:Int) (h1:1≤c) (h5:c≤5):allNames[c.toNat]?.getD []=tkT (tkV ⟨1,4,c,[],R4.zero,0,0,0⟩):=by
 have h:c=1∨c=2∨c=3∨c=4∨c=5:=by omega
 rcases h with rfl | rfl | rfl | rfl | rfl <;> rfl
theorem show_Literal (k:Nat) (n:Int) (t:List UInt8) (ht:t.length≤4611686018427387904) (h2:n≤9223372036854775807) (w:World) (hw:WEnv w) :
  Calls Tryz.prog 120 #[.agg #[.int .u8 (k:Nat),.int .i64 n,.string ⟨t.toArray⟩]] w fun e w'=>e=.returned (.tuple #[.string ⟨(litS k n t).1.toArray⟩,.int .i64 (litS k n t).2])∧Below w.heap.size w w':=by
 by_cases hg:goodV k n t
 ·rw [lit_yes hg]
  rcases hg with ⟨rfl,h0,rfl⟩ | ⟨rfl,h0,rfl⟩ | ⟨rfl,rfl,h1,hp⟩ | ⟨rfl,⟨h1,h5⟩,rfl⟩
  ·exact lit_num n h0 h2 w
  ·rcases h0 with rfl | rfl
   ·exact lit_no_ w
   ·exact lit_yes_ w
  ·exact lit_txt t h1 hp w (Lib.hid hw)
  ·rw [← err_all n h1 h5]
   exact lit_err n h1 h5 w (Lib.hid hw.1)
 ·rw [lit_no hg]
  exact lit_bad k n t ht hg w
theorem show_signs2 (w:World) :
  Calls Tryz.prog 122 #[] w fun e w'=>∃ r,e=.returned (.map (some r))∧w'.heap[r]?=some (.map signsEs 12)∧Below w.heap.size w w':=by
 refine (show_signs w).mono ?_
 rintro e w1 ⟨rfl,rfl⟩
 exact ⟨_,rfl,heap_of_alloc _ _,(Below.refl _ _).alloc (Nat.le_refl _) _⟩
theorem own_val (k:Nat) (n:Int) (t:List UInt8) (ht:t.length≤4611686018427387904) (h2:n≤9223372036854775807) (w:World) (HW:Hid (WEnv w)) :
  Calls Tryz.prog 93 #[.agg #[.int .u8 1,.int .u8 (k:Nat),.int .i64 n,.string ⟨t.toArray⟩,.int .i64 0,.int .i64 0,.int .i64 0,.int .i64 0,.int .i64 0,.int .u8 0,.int .i64 0]] w fun e w'=>e=.returned (.string ⟨(litS k n t).1.toArray⟩)∧Below w.heap.size w w':=by
 obtain ⟨LV,hLV⟩:∃ LV,litS k n t=LV:=⟨_,rfl⟩
 have HLT:=keep (fun (w2:World) (hw2:WEnv w2)=>show Calls Tryz.prog 120 #[.agg #[.int .u8 (k:Nat),.int .i64 n,.string ⟨t.toArray⟩]] w2 fun e w'=>e=.returned (.tuple #[.string ⟨LV.1.toArray⟩,.int .i64 LV.2])∧Below w2.heap.size w2 w' by rw [← hLV]; exact show_Literal k n t ht h2 w2 hw2)
 rw [hLV]
 clear hLV ht h2
 have H1:=Lib.hid ((Ok.start w).alloc w.heap.size 96 [.int .u8 1,.int .u8 (k:Nat),.int .i64 n,.string ⟨t.toArray⟩,.int .i64 0,.int .i64 0,.int .i64 0,.int .i64 0,.int .i64 0,.int .u8 0,.int .i64 0] rfl)
 go_enter Tryz.func93,Tryz.ntmps93
 go_wp2_with fail
 generalize (w.alloc (.cells #[.int .u8 1,.int .u8 (k:Nat),.int .i64 n,.string ⟨t.toArray⟩,.int .i64 0,.int .i64 0,.int .i64 0,.int .i64 0,.int .i64 0,.int .u8 0,.int .i64 0] 96))=W2 at H1 ⊢
 refine (HLT.out _ (HW.out.below (below_step (Below.refl _ _) H1.out.bel))).mono ?_
 rintro e w3 ⟨rfl,hb4⟩
 have H5:=Lib.hid (H1.out.below hb4)
 clear hb4 H1
 have F6:=H5.out.sees
 simp only [sees,kBlk,cellsAt,Nat.reduceAdd] at F6
 obtain ⟨⟨z0,c00,c01,c02,c03,c04,c05,c06,c07,c08,c09,c0a,-⟩,-⟩:=F6
 go_wp2_with fail
 go_ret
 exact ⟨rfl,H5.out.bel⟩
theorem own_r2 (a b c d:Int) (w:World) (HW:Hid (WEnv w)) :
  Calls Tryz.prog 93 #[.agg #[.int .u8 2,.int .u8 0,.int .i64 0,.string ⟨#[]⟩,.int .i64 a,.int .i64 b,.int .i64 c,.int .i64 d,.int .i64 0,.int .u8 0,.int .i64 0]] w fun e w'=>e=.returned (.string ⟨(fmtR ⟨a,b,c,d⟩).1.toArray⟩)∧Below w.heap.size w w':=by
 obtain ⟨LV,hLV⟩:∃ LV,fmtR ⟨a,b,c,d⟩=LV:=⟨_,rfl⟩
 have HRF:=keep (fun (w2:World) (hw2:Pow w2)=>show Calls Tryz.prog 121 #[.agg #[.int .i64 a,.int .i64 b,.int .i64 c,.int .i64 d]] w2 fun e w'=>e=.returned (.tuple #[.string ⟨LV.1.toArray⟩,.int .i64 LV.2])∧Below w2.heap.size w2 w' by rw [← hLV]; exact rect_Format a b c d w2 hw2)
 rw [hLV]
 clear hLV
 have H1:=Lib.hid ((Ok.start w).alloc w.heap.size 96 [.int .u8 2,.int .u8 0,.int .i64 0,.string ⟨#[]⟩,.int .i64 a,.int .i64 b,.int .i64 c,.int .i64 d,.int .i64 0,.int .u8 0,.int .i64 0] rfl)
 go_enter Tryz.func93,Tryz.ntmps93
 go_wp2_with fail
 generalize (w.alloc (.cells #[.int .u8 2,.int .u8 0,.int .i64 0,.string ⟨#[]⟩,.int .i64 a,.int .i64 b,.int .i64 c,.int .i64 d,.int .i64 0,.int .u8 0,.int .i64 0] 96))=W2 at H1 ⊢
 refine (HRF.out _ (HW.out.below (below_step (Below.refl _ _) H1.out.bel)).2.1).mono ?_
 rintro e w3 ⟨rfl,hb4⟩
 have H5:=Lib.hid (H1.out.below hb4)
 clear hb4 H1
 have F6:=H5.out.sees
 simp only [sees,kBlk,cellsAt,Nat.reduceAdd] at F6
 obtain ⟨⟨z0,c00,c01,c02,c03,c04,c05,c06,c07,c08,c09,c0a,-⟩,-⟩:=F6
 go_wp2_with fail
 go_ret
 exact ⟨rfl,H5.out.bel⟩
theorem own_r3 (a b c d:Int) (w:World) (HW:Hid (WEnv w)) :
  Calls Tryz.prog 93 #[.agg #[.int .u8 3,.int .u8 0,.int .i64 0,.string ⟨#[]⟩,.int .i64 a,.int .i64 b,.int .i64 c,.int .i64 d,.int .i64 0,.int .u8 0,.int .i64 0]] w fun e w'=>e=.returned (.string ⟨(fmtR ⟨a,b,c,d⟩).1.toArray⟩)∧Below w.heap.size w w':=by
 obtain ⟨LV,hLV⟩:∃ LV,fmtR ⟨a,b,c,d⟩=LV:=⟨_,rfl⟩
 have HRF:=keep (fun (w2:World) (hw2:Pow w2)=>show Calls Tryz.prog 121 #[.agg #[.int .i64 a,.int .i64 b,.int .i64 c,.int .i64 d]] w2 fun e w'=>e=.returned (.tuple #[.string ⟨LV.1.toArray⟩,.int .i64 LV.2])∧Below w2.heap.size w2 w' by rw [← hLV]; exact rect_Format a b c d w2 hw2)
 rw [hLV]
 clear hLV
 have H1:=Lib.hid ((Ok.start w).alloc w.heap.size 96 [.int .u8 3,.int .u8 0,.int .i64 0,.string ⟨#[]⟩,.int .i64 a,.int .i64 b,.int .i64 c,.int .i64 d,.int .i64 0,.int .u8 0,.int .i64 0] rfl)
 go_enter Tryz.func93,Tryz.ntmps93
 go_wp2_with fail
 generalize (w.alloc (.cells #[.int .u8 3,.int .u8 0,.int .i64 0,.string ⟨#[]⟩,.int .i64 a,.int .i64 b,.int .i64 c,.int .i64 d,.int .i64 0,.int .u8 0,.int .i64 0] 96))=W2 at H1 ⊢
 refine (HRF.out _ (HW.out.below (below_step (Below.refl _ _) H1.out.bel)).2.1).mono ?_
 rintro e w3 ⟨rfl,hb4⟩
 have H5:=Lib.hid (H1.out.below hb4)
 clear hb4 H1
 have F6:=H5.out.sees
 simp only [sees,kBlk,cellsAt,Nat.reduceAdd] at F6
 obtain ⟨⟨z0,c00,c01,c02,c03,c04,c05,c06,c07,c08,c09,c0a,-⟩,-⟩:=F6
 go_wp2_with fail
 go_ret
 exact ⟨rfl,H5.out.bel⟩
theorem own_4 (w:World) :
  Calls Tryz.prog 93 #[.agg #[.int .u8 4,.int .u8 0,.int .i64 0,.string ⟨#[]⟩,.int .i64 0,.int .i64 0,.int .i64 0,.int .i64 0,.int .i64 0,.int .u8 0,.int .i64 0]] w fun e w'=>e=.returned (.string ⟨#[110,101,103]⟩)∧Below w.heap.size w w':=by
 have H1:=Lib.hid ((Ok.start w).alloc w.heap.size 96 [.int .u8 4,.int .u8 0,.int .i64 0,.string ⟨#[]⟩,.int .i64 0,.int .i64 0,.int .i64 0,.int .i64 0,.int .i64 0,.int .u8 0,.int .i64 0] rfl)
 go_enter Tryz.func93,Tryz.ntmps93
 go_wp2_with fail
 generalize (w.alloc (.cells #[.int .u8 4,.int .u8 0,.int .i64 0,.string ⟨#[]⟩,.int .i64 0,.int .i64 0,.int .i64 0,.int .i64 0,.int .i64 0,.int .u8 0,.int .i64 0] 96))=W2 at H1 ⊢
 go_ret
 exact ⟨rfl,H1.out.bel⟩
theorem own_5 (w:World) :
  Calls Tryz.prog 93 #[.agg #[.int .u8 5,.int .u8 0,.int .i64 0,.string ⟨#[]⟩,.int .i64 0,.int .i64 0,.int .i64 0,.int .i64 0,.int .i64 0,.int .u8 0,.int .i64 0]] w fun e w'=>e=.returned (.string ⟨#[112,101,114,99,101,110,116]⟩)∧Below w.heap.size w w':=by
 have H1:=Lib.hid ((Ok.start w).alloc w.heap.size 96 [.int .u8 5,.int .u8 0,.int .i64 0,.string ⟨#[]⟩,.int .i64 0,.int .i64 0,.int .i64 0,.int .i64 0,.int .i64 0,.int .u8 0,.int .i64 0] rfl)
 go_enter Tryz.func93,Tryz.ntmps93
 go_wp2_with fail
 generalize (w.alloc (.cells #[.int .u8 5,.int .u8 0,.int .i64 0,.string ⟨#[]⟩,.int .i64 0,.int .i64 0,.int .i64 0,.int .i64 0,.int .i64 0,.int .u8 0,.int .i64 0] 96))=W2 at H1 ⊢
 go_ret
 exact ⟨rfl,H1.out.bel⟩
theorem own_7 (fn:Nat) (k:Nat) (h1:1≤fn) (h50:fn≤50) (w:World) :
  Calls Tryz.prog 93 #[.agg #[.int .u8 7,.int .u8 0,.int .i64 0,.string ⟨#[]⟩,.int .i64 0,.int .i64 0,.int .i64 0,.int .i64 0,.int .i64 0,.int .u8 (fn:Nat),.int .i64 (k:Nat)]] w fun e w'=>e=.returned (.string ⟨(nameF fn).toArray⟩)∧Below w.heap.size w w':=by
 obtain ⟨X,hX⟩:∃ X,nameF fn=X:=⟨_,rfl⟩
 have HNM:=keep (fun (w2:World)=>show Calls Tryz.prog 123 #[.int .u8 (fn:Nat)] w2 fun e w'=>e=.returned (.tuple #[.string ⟨X.toArray⟩,.int .i64 0])∧Below w2.heap.size w2 w' by rw [← hX]; exact tree_Name fn h1 h50 w2)
 rw [hX]
 clear hX h1 h50
 have H1:=Lib.hid ((Ok.start w).alloc w.heap.size 96 [.int .u8 7,.int .u8 0,.int .i64 0,.string ⟨#[]⟩,.int .i64 0,.int .i64 0,.int .i64 0,.int .i64 0,.int .i64 0,.int .u8 (fn:Nat),.int .i64 (k:Nat)] rfl)
 go_enter Tryz.func93,Tryz.ntmps93
 go_wp2_with fail
 generalize (w.alloc (.cells #[.int .u8 7,.int .u8 0,.int .i64 0,.string ⟨#[]⟩,.int .i64 0,.int .i64 0,.int .i64 0,.int .i64 0,.int .i64 0,.int .u8 (fn:Nat),.int .i64 (k:Nat)] 96))=W2 at H1 ⊢
 refine (HNM.out _).mono ?_
 rintro e w3 ⟨rfl,hb4⟩
 have H5:=Lib.hid (H1.out.below hb4)
 clear hb4 H1
 have F6:=H5.out.sees
 simp only [sees,kBlk,cellsAt,Nat.reduceAdd] at F6
 obtain ⟨⟨z0,c00,c01,c02,c03,c04,c05,c06,c07,c08,c09,c0a,-⟩,-⟩:=F6
 go_wp2_with fail
 go_ret
 exact ⟨rfl,H5.out.bel⟩
theorem own_6 (op:Int) (h1:1≤op) (h12:op≤12) (w:World) :
  Calls Tryz.prog 93 #[.agg #[.int .u8 6,.int .u8 0,.int .i64 0,.string ⟨#[]⟩,.int .i64 0,.int .i64 0,.int .i64 0,.int .i64 0,.int .i64 op,.int .u8 0,.int .i64 0]] w fun e w'=>e=.returned (.string ⟨(opText op).toArray⟩)∧Below w.heap.size w w':=by
 obtain ⟨X,hX⟩:∃ X,opText op=X:=⟨_,rfl⟩
 have HSG:=keep (sign_at op h1 h12)
 rw [hX] at HSG ⊢
 clear hX h1 h12
 have H1:=Lib.hid ((Ok.start w).alloc w.heap.size 96 [.int .u8 6,.int .u8 0,.int .i64 0,.string ⟨#[]⟩,.int .i64 0,.int .i64 0,.int .i64 0,.int .i64 0,.int .i64 op,.int .u8 0,.int .i64 0] rfl)
 go_enter Tryz.func93,Tryz.ntmps93
 go_upto_region 13 with fail
 generalize (w.alloc (.cells #[.int .u8 6,.int .u8 0,.int .i64 0,.string ⟨#[]⟩,.int .i64 0,.int .i64 0,.int .i64 0,.int .i64 0,.int .i64 op,.int .u8 0,.int .i64 0] 96))=W2 at H1 ⊢
 refine wp_region_held_drew (S:=fun W=>Ok w [kBlk (w.heap.size) 96 [.int .u8 6,.int .u8 0,.int .i64 0,.string ⟨#[]⟩,.int .i64 0,.int .i64 0,.int .i64 0,.int .i64 0,.int .i64 op,.int .u8 0,.int .i64 0]] W) (by kernel_rfl) H1.out.drew (fun hHeld => ?_)
 have H3:=Lib.hid H1.out.drew
 clear H1
 generalize W2.drew=W4 at hHeld H3 ⊢
 refine wt3 (i:=1) rfl (by assumption) ?_
 refine wt3 (i:=2) rfl (by assumption) ?_
 refine wal (i:=0) rfl (fun K hK => ?_)
 go_simp
 refine (show_signs2 _).mono ?_
 rintro e w5 ⟨r,rfl,hr,hb6⟩
 go_wp2_with fail
 have H7:=Lib.hid (H3.out.below hb6)
 clear hb6 H3
 have hlk:=HSG.out r w5 hr
 clear hr
 refine hK.out _ _ (H7.out) (fun hHeld => ?_)
 clear hK K
 try simp only [Act.put,wp1,wp2,wp3,wp4,wp5,wp6]
 refine wal (i:=3) rfl (fun K hK => ?_)
 go_simp
 go_wp2_with fail
 clear hlk
 refine hK.out _ _ (H7.out) (fun hHeld => ?_)
 clear hK K
 try simp only [Act.put,wp1,wp2,wp3,wp4,wp5,wp6]
 refine wt3 (i:=4) rfl (by assumption) ?_
 refine wpAnyH_done (by kernel_rfl) ?_ _
 clear hHeld
 have F8:=H7.out.sees
 simp only [sees,kBlk,cellsAt,Nat.reduceAdd] at F8
 obtain ⟨⟨z0,c00,c01,c02,c03,c04,c05,c06,c07,c08,c09,c0a,-⟩,-⟩:=F8
 go_wp2_with fail
 go_ret
 exact ⟨rfl,H7.out.bel⟩
theorem show_own (n:Nd) (hg:goodNd n) (hn:n.vn≤9223372036854775807) (w:World) (hw:WEnv w) :
  Calls Tryz.prog 93 #[ndA n] w fun e w'=>e=.returned (.string ⟨(ownO n).toArray⟩)∧Below w.heap.size w w':=by
 have rng:∀ r:R4,checkB r=true→rngT r=(fmtR r).1:=by
  intro r h
  rw [fmtR_yes h]
  rfl
 rcases hg with ⟨vk,vn,vt,rfl,hv⟩ | ⟨⟨a,b,c,d⟩,rfl,hc,h1,h2⟩ | ⟨⟨a,b,c,d⟩,rfl,hc,hne⟩ | rfl | rfl | ⟨op,rfl,h1,h2⟩ | ⟨fn,k,rfl,h1,h2,h3,h4⟩
 ·have e:ownO ⟨1,vk,vn,vt,R4.zero,0,0,0⟩=(litS vk vn vt).1:=by rw [lit_yes hv]; rfl
  rw [e]
  have hl:=good_text (n:=⟨1,vk,vn,vt,R4.zero,0,0,0⟩) (.inl ⟨vk,vn,vt,rfl,hv⟩)
  have hl:vt.length≤256:=hl
  exact own_val vk vn vt (by omega) hn w (Lib.hid hw)
 ·have e:ownO (ndRef ⟨a,b,c,d⟩)=(fmtR ⟨a,b,c,d⟩).1:=(show ownO (ndRef ⟨a,b,c,d⟩)=rngT ⟨a,b,c,d⟩ from rfl).trans (rng _ hc)
  rw [e]
  exact own_r2 a b c d w (Lib.hid hw)
 ·have e:ownO (ndRange ⟨a,b,c,d⟩)=(fmtR ⟨a,b,c,d⟩).1:=(show ownO (ndRange ⟨a,b,c,d⟩)=rngT ⟨a,b,c,d⟩ from rfl).trans (rng _ hc)
  rw [e]
  exact own_r3 a b c d w (Lib.hid hw)
 ·exact own_4 w
 ·exact own_5 w
 ·exact own_6 op h1 h2 w
 ·exact own_7 fn k h1 h2 w
