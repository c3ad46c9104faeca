/- show.Literal and show.own. -/
import Derived.Test.YtdplcdhpnmcdjaaGreatDoorFShn
import Derived.Test.YtdplcdhpnmcdjaaGreatDoorFTg
import Derived.Test.YtdplcdhpnmcdjaaGreatDoorFForB
namespace Go.Proofs.YtdplcdhpnmcdjaaGreatDoor
set_option maxRecDepth 100000
set_option maxHeartbeats 4000000
open Go.RowKit Go.Proofs.Tryz
def gk (k:Nat) (n:Int) (t:List UInt8):NdA:=⟨1,k,n,t,R4.zero,0,0,0⟩
theorem fE {w:World} {b:Nat} {a:NdA} (h:Blk w b 39 (bd a).toArray):ap w (some ⟨b,0,none⟩) 11 ([a].map bd):=by
 intro _
 refine ⟨b,0,rfl,h.lt,fun i r hi j v hj => ?_⟩
 cases i with
 | zero =>
  obtain rfl:=Option.some.inj hi
  rw [h.cell,Nat.zero_mul,Nat.zero_add,Nat.zero_add]
  simpa using hj
 | succ i=>cases hi
theorem eu (k:Nat) (n:Int) (t:List UInt8):(dD k n t→az [gk k n t]=0)∧(¬ dD k n t→az [gk k n t]≠0):=by
 constructor
 ·intro h
  have hg:aJ ⟨1,k,n,t,R4.zero,0,0,0⟩:=.inl ⟨k,n,t,rfl,h⟩
  have e:[gk k n t]=[(⟨1,k,n,t,R4.zero,0,0,0⟩:Nd)].map Nd.any:=rfl
  rw [e,iF (by intro x hx; rw [List.mem_singleton] at hx; subst hx; exact hg)]
  rfl
 intro h h0
 have:=(eS h0).1 (gk k n t) (by simp)
 have:=(cU this).1
 rcases this with ⟨vk,vn,vt,e,hv⟩ | ⟨r,e,_⟩ | ⟨r,e,_⟩ | e | e | ⟨op,e,_⟩ | ⟨fn,k,e,_⟩
 ·have e1:k=vk:=congrArg Nd.vk e
  have e2:n=vn:=congrArg Nd.vn e
  have e3:t=vt:=congrArg Nd.vt e
  rw [e1,e2,e3] at h
  exact h hv
 all_goals (have:=congrArg Nd.kind e; simp [gk,NdA.nd,cJ,aK,ci,bR,aH,bI] at this)
open Classical in
noncomputable def iO (k:Nat) (n:Int) (t:List UInt8):List UInt8×Int:=if dD k n t then (tkT (tkV ⟨1,k,n,t,R4.zero,0,0,0⟩),0) else ([],2)
theorem je {k:Nat} {n:Int} {t:List UInt8} (h:dD k n t):iO k n t=(tkT (tkV ⟨1,k,n,t,R4.zero,0,0,0⟩),0):=if_pos h
theorem qo {k:Nat} {n:Int} {t:List UInt8} (h:¬ dD k n t):iO k n t=([],2):=if_neg h
theorem xu (k:Nat) (n:Int) (t:List UInt8) (ht:t.length≤4611686018427387904) (hg:¬ dD k n t) (w:World) :
  Calls prog 32 #[.agg #[.int .u8 (k:Nat),.int .i64 n,.string ⟨t.toArray⟩]] w fun e w'=>e=.returned (.tuple #[.string ⟨#[]⟩,.int .i64 2])∧Below w.heap.size w w':=by
 have HTX:=keep ht
 have HCK:=keep ((eu k n t).2 hg)
 clear ht hg
 have H1:=Lib.hid (((Ok.start w).alloc w.heap.size 35 [.int .u8 (k:Nat),.int .i64 n,.string ⟨t.toArray⟩] rfl).alloc (w.heap.size+1) 39 [.int .u8 1,.int .u8 (k:Nat),.int .i64 n,.string ⟨t.toArray⟩,.int .i64 0,.int .i64 0,.int .i64 0,.int .i64 0,.int .i64 0,.int .u8 0,.int .i64 0] (by simp))
 go_enter func32,ntmps32
 go_wp2_with fail
 generalize ((w.alloc (.cells #[.int .u8 (k:Nat),.int .i64 n,.string ⟨t.toArray⟩] 35)).alloc (.cells #[.int .u8 1,.int .u8 (k:Nat),.int .i64 n,.string ⟨t.toArray⟩,.int .i64 0,.int .i64 0,.int .i64 0,.int .i64 0,.int .i64 0,.int .u8 0,.int .i64 0] 39))=W2 at H1 ⊢
 have HRW:=keep (fE (a:=(gk k n t)) (show Blk _ _ _ _ from H1.out.get (af (w.heap.size+1) 39 [.int .u8 1,.int .u8 (k:Nat),.int .i64 n,.string ⟨t.toArray⟩,.int .i64 0,.int .i64 0,.int .i64 0,.int .i64 0,.int .i64 0,.int .u8 0,.int .i64 0]) (by simp)))
 refine cM (bY [(gk k n t)] (some ⟨w.heap.size+1,0,none⟩) 1 _ HRW.out (by show 1≤1000; decide) (by intro x hx; rw [List.mem_singleton] at hx; subst hx; exact HTX.out)) H1 fun w3 H5=>?_
 clear H1
 have F6:=sE H5
 obtain ⟨c,hc⟩:=ex (az [(gk k n t)])
 rw [hc]
 have hc0:(c != 0)=true:=by rw [← hc]; simpa using HCK.out
 clear hc
 go_wp2_with fail
 exact bodyPost_ret (v:=.tuple #[.string ⟨#[]⟩,.int .i64 2]) (by simp [results,results32,go_sem]) rfl ⟨rfl,H5.out.bel⟩
theorem xx (n:Int) (h0:0≤n) (h2:n≤9223372036854775807) (w:World) :
  Calls prog 32 #[.agg #[.int .u8 1,.int .i64 n,.string ⟨#[]⟩]] w fun e w'=>e=.returned (.tuple #[.string ⟨(eE n).toArray⟩,.int .i64 0])∧Below w.heap.size w w':=by
 have HTX:=keep (show (([]:List UInt8)).length≤4611686018427387904 by decide)
 have HCK:=keep ((eu 1 n []).1 (.inl ⟨rfl,h0,rfl⟩))
 have H1:=Lib.hid (((Ok.start w).alloc w.heap.size 35 [.int .u8 1,.int .i64 n,.string ⟨#[]⟩] rfl).alloc (w.heap.size+1) 39 [.int .u8 1,.int .u8 1,.int .i64 n,.string ⟨#[]⟩,.int .i64 0,.int .i64 0,.int .i64 0,.int .i64 0,.int .i64 0,.int .u8 0,.int .i64 0] (by simp))
 go_enter func32,ntmps32
 go_wp2_with fail
 generalize ((w.alloc (.cells #[.int .u8 1,.int .i64 n,.string ⟨#[]⟩] 35)).alloc (.cells #[.int .u8 1,.int .u8 1,.int .i64 n,.string ⟨#[]⟩,.int .i64 0,.int .i64 0,.int .i64 0,.int .i64 0,.int .i64 0,.int .u8 0,.int .i64 0] 39))=W2 at H1 ⊢
 have HRW:=keep (fE (a:=(gk 1 n [])) (show Blk _ _ _ _ from H1.out.get (af (w.heap.size+1) 39 [.int .u8 1,.int .u8 1,.int .i64 n,.string ⟨#[]⟩,.int .i64 0,.int .i64 0,.int .i64 0,.int .i64 0,.int .i64 0,.int .u8 0,.int .i64 0]) (by simp)))
 refine cM (bY [(gk 1 n [])] (some ⟨w.heap.size+1,0,none⟩) 1 _ HRW.out (by show 1≤1000; decide) (by intro x hx; rw [List.mem_singleton] at hx; subst hx; exact HTX.out)) H1 fun w3 H5=>?_
 clear H1
 have F6:=sE H5
 rw [HCK.out]
 go_wp2_with fail
 refine cM (pP n _ (by omega) h2) H5 fun w7 H9=>?_
 clear F6 H5
 have F10:=sE H9
 go_wp2_with fail
 exact bodyPost_ret (v:=.tuple #[.string ⟨(eE n).toArray⟩,.int .i64 0]) (by simp [results,results32,go_sem]) rfl ⟨rfl,H9.out.bel⟩
theorem uP  (w:World) :
  Calls prog 32 #[.agg #[.int .u8 2,.int .i64 1,.string ⟨#[]⟩]] w fun e w'=>e=.returned (.tuple #[.string ⟨#[84,82,85,69]⟩,.int .i64 0])∧Below w.heap.size w w':=by
 have HTX:=keep (show (([]:List UInt8)).length≤4611686018427387904 by decide)
 have HCK:=keep ((eu 2 1 []).1 (.inr (.inl ⟨rfl,by decide,rfl⟩)))
 have H1:=Lib.hid (((Ok.start w).alloc w.heap.size 35 [.int .u8 2,.int .i64 1,.string ⟨#[]⟩] rfl).alloc (w.heap.size+1) 39 [.int .u8 1,.int .u8 2,.int .i64 1,.string ⟨#[]⟩,.int .i64 0,.int .i64 0,.int .i64 0,.int .i64 0,.int .i64 0,.int .u8 0,.int .i64 0] (by simp))
 go_enter func32,ntmps32
 go_wp2_with fail
 generalize ((w.alloc (.cells #[.int .u8 2,.int .i64 1,.string ⟨#[]⟩] 35)).alloc (.cells #[.int .u8 1,.int .u8 2,.int .i64 1,.string ⟨#[]⟩,.int .i64 0,.int .i64 0,.int .i64 0,.int .i64 0,.int .i64 0,.int .u8 0,.int .i64 0] 39))=W2 at H1 ⊢
 have HRW:=keep (fE (a:=(gk 2 1 [])) (show Blk _ _ _ _ from H1.out.get (af (w.heap.size+1) 39 [.int .u8 1,.int .u8 2,.int .i64 1,.string ⟨#[]⟩,.int .i64 0,.int .i64 0,.int .i64 0,.int .i64 0,.int .i64 0,.int .u8 0,.int .i64 0]) (by simp)))
 refine cM (bY [(gk 2 1 [])] (some ⟨w.heap.size+1,0,none⟩) 1 _ HRW.out (by show 1≤1000; decide) (by intro x hx; rw [List.mem_singleton] at hx; subst hx; exact HTX.out)) H1 fun w3 H5=>?_
 clear H1
 have F6:=sE H5
 rw [HCK.out]
 go_wp2_with fail
 refine cM (yJ (by decide) (bA (.inr (.inr (.inl ⟨rfl,rfl,by decide⟩)))) _) H5 fun w7 H9=>?_
 clear F6 H5
 have F10:=sE H9
 go_wp2_with fail
 exact bodyPost_ret (v:=.tuple #[.string ⟨#[84,82,85,69]⟩,.int .i64 0]) (by simp [results,results32,go_sem]) rfl ⟨rfl,H9.out.bel⟩
theorem xw  (w:World) :
  Calls prog 32 #[.agg #[.int .u8 2,.int .i64 0,.string ⟨#[]⟩]] w fun e w'=>e=.returned (.tuple #[.string ⟨#[70,65,76,83,69]⟩,.int .i64 0])∧Below w.heap.size w w':=by
 have HTX:=keep (show (([]:List UInt8)).length≤4611686018427387904 by decide)
 have HCK:=keep ((eu 2 0 []).1 (.inr (.inl ⟨rfl,by decide,rfl⟩)))
 have H1:=Lib.hid (((Ok.start w).alloc w.heap.size 35 [.int .u8 2,.int .i64 0,.string ⟨#[]⟩] rfl).alloc (w.heap.size+1) 39 [.int .u8 1,.int .u8 2,.int .i64 0,.string ⟨#[]⟩,.int .i64 0,.int .i64 0,.int .i64 0,.int .i64 0,.int .i64 0,.int .u8 0,.int .i64 0] (by simp))
 go_enter func32,ntmps32
 go_wp2_with fail
 generalize ((w.alloc (.cells #[.int .u8 2,.int .i64 0,.string ⟨#[]⟩] 35)).alloc (.cells #[.int .u8 1,.int .u8 2,.int .i64 0,.string ⟨#[]⟩,.int .i64 0,.int .i64 0,.int .i64 0,.int .i64 0,.int .i64 0,.int .u8 0,.int .i64 0] 39))=W2 at H1 ⊢
 have HRW:=keep (fE (a:=(gk 2 0 [])) (show Blk _ _ _ _ from H1.out.get (af (w.heap.size+1) 39 [.int .u8 1,.int .u8 2,.int .i64 0,.string ⟨#[]⟩,.int .i64 0,.int .i64 0,.int .i64 0,.int .i64 0,.int .i64 0,.int .u8 0,.int .i64 0]) (by simp)))
 refine cM (bY [(gk 2 0 [])] (some ⟨w.heap.size+1,0,none⟩) 1 _ HRW.out (by show 1≤1000; decide) (by intro x hx; rw [List.mem_singleton] at hx; subst hx; exact HTX.out)) H1 fun w3 H5=>?_
 clear H1
 have F6:=sE H5
 rw [HCK.out]
 go_wp2_with fail
 refine cM (yI (by decide) (bA (.inr (.inr (.inl ⟨rfl,rfl,by decide⟩)))) _) H5 fun w7 H9=>?_
 clear F6 H5
 have F10:=sE H9
 go_wp2_with fail
 exact bodyPost_ret (v:=.tuple #[.string ⟨#[70,65,76,83,69]⟩,.int .i64 0]) (by simp [results,results32,go_sem]) rfl ⟨rfl,H9.out.bel⟩
theorem xv (c:Int) (h1:1≤c) (h5:c≤5) (w:World) (HW:Hid (Words w)) :
  Calls prog 32 #[.agg #[.int .u8 4,.int .i64 c,.string ⟨#[]⟩]] w fun e w'=>e=.returned (.tuple #[.string ⟨(bJ[c.toNat]?.getD []).toArray⟩,.int .i64 0])∧Below w.heap.size w w':=by
 have HTX:=keep (show (([]:List UInt8)).length≤4611686018427387904 by decide)
 have HCK:=keep ((eu 4 c []).1 (.inr (.inr (.inr ⟨rfl,⟨h1,h5⟩,rfl⟩))))
 have H1:=Lib.hid (((Ok.start w).alloc w.heap.size 35 [.int .u8 4,.int .i64 c,.string ⟨#[]⟩] rfl).alloc (w.heap.size+1) 39 [.int .u8 1,.int .u8 4,.int .i64 c,.string ⟨#[]⟩,.int .i64 0,.int .i64 0,.int .i64 0,.int .i64 0,.int .i64 0,.int .u8 0,.int .i64 0] (by simp))
 go_enter func32,ntmps32
 go_wp2_with fail
 generalize ((w.alloc (.cells #[.int .u8 4,.int .i64 c,.string ⟨#[]⟩] 35)).alloc (.cells #[.int .u8 1,.int .u8 4,.int .i64 c,.string ⟨#[]⟩,.int .i64 0,.int .i64 0,.int .i64 0,.int .i64 0,.int .i64 0,.int .u8 0,.int .i64 0] 39))=W2 at H1 ⊢
 have HRW:=keep (fE (a:=(gk 4 c [])) (show Blk _ _ _ _ from H1.out.get (af (w.heap.size+1) 39 [.int .u8 1,.int .u8 4,.int .i64 c,.string ⟨#[]⟩,.int .i64 0,.int .i64 0,.int .i64 0,.int .i64 0,.int .i64 0,.int .u8 0,.int .i64 0]) (by simp)))
 refine cM (bY [(gk 4 c [])] (some ⟨w.heap.size+1,0,none⟩) 1 _ HRW.out (by show 1≤1000; decide) (by intro x hx; rw [List.mem_singleton] at hx; subst hx; exact HTX.out)) H1 fun w3 H5=>?_
 clear H1
 have F6:=sE H5
 rw [HCK.out]
 go_wp2_with fail
 refine cM (lO c h1 (by omega) _ (Words.below HW.out (am (Below.refl _ _) H5.out.bel))) H5 fun w7 H9=>?_
 clear F6 H5
 have F10:=sE H9
 go_wp2_with fail
 exact bodyPost_ret (v:=.tuple #[.string ⟨(bJ[c.toNat]?.getD []).toArray⟩,.int .i64 0]) (by simp [results,results32,go_sem]) rfl ⟨rfl,H9.out.bel⟩
theorem xy (t:List UInt8) (h:t.length≤256) (hp:t.all ay=true) (w:World) (HW:Hid (cH w)) :
  Calls prog 32 #[.agg #[.int .u8 3,.int .i64 0,.string ⟨t.toArray⟩]] w fun e w'=>e=.returned (.tuple #[.string ⟨(cW t).toArray⟩,.int .i64 0])∧Below w.heap.size w w':=by
 have HTX:=keep (show t.length≤4611686018427387904 by omega)
 have HCK:=keep ((eu 3 0 t).1 (.inr (.inr (.inl ⟨rfl,rfl,h,hp⟩))))
 have HC0:=keep (show bm t=0 by unfold bm; rw [if_neg (by omega),if_pos hp])
 clear h hp
 have H1:=Lib.hid (((Ok.start w).alloc w.heap.size 35 [.int .u8 3,.int .i64 0,.string ⟨t.toArray⟩] rfl).alloc (w.heap.size+1) 39 [.int .u8 1,.int .u8 3,.int .i64 0,.string ⟨t.toArray⟩,.int .i64 0,.int .i64 0,.int .i64 0,.int .i64 0,.int .i64 0,.int .u8 0,.int .i64 0] (by simp))
 go_enter func32,ntmps32
 go_wp2_with fail
 generalize ((w.alloc (.cells #[.int .u8 3,.int .i64 0,.string ⟨t.toArray⟩] 35)).alloc (.cells #[.int .u8 1,.int .u8 3,.int .i64 0,.string ⟨t.toArray⟩,.int .i64 0,.int .i64 0,.int .i64 0,.int .i64 0,.int .i64 0,.int .u8 0,.int .i64 0] 39))=W2 at H1 ⊢
 have HRW:=keep (fE (a:=(gk 3 0 t)) (show Blk _ _ _ _ from H1.out.get (af (w.heap.size+1) 39 [.int .u8 1,.int .u8 3,.int .i64 0,.string ⟨t.toArray⟩,.int .i64 0,.int .i64 0,.int .i64 0,.int .i64 0,.int .i64 0,.int .u8 0,.int .i64 0]) (by simp)))
 refine cM (bY [(gk 3 0 t)] (some ⟨w.heap.size+1,0,none⟩) 1 _ HRW.out (by show 1≤1000; decide) (by intro x hx; rw [List.mem_singleton] at hx; subst hx; exact HTX.out)) H1 fun w3 H5=>?_
 clear H1
 have F6:=sE H5
 rw [HCK.out]
 go_wp2_with fail
 refine cM (nY ⟨t.toArray⟩ _ HTX.out ((HW.out.below (am (Below.refl _ _) H5.out.bel)).2.2)) H5 fun w7 H9=>?_
 rw [show eJ (⟨t.toArray⟩:ByteArray).data.toList=cW t from if_pos HC0.out,show bm (⟨t.toArray⟩:ByteArray).data.toList=0 from HC0.out]
 clear F6 H5
 have F10:=sE H9
 go_wp2_with fail
 exact bodyPost_ret (v:=.tuple #[.string ⟨(cW t).toArray⟩,.int .i64 0]) (by simp [results,results32,go_sem]) rfl ⟨rfl,H9.out.bel⟩
theorem wM (c:Int) (h1:1≤c) (h5:c≤5):bJ[c.toNat]?.getD []=tkT (tkV ⟨1,4,c,[],R4.zero,0,0,0⟩):=by
 have h:c=1∨c=2∨c=3∨c=4∨c=5:=by omega
 rcases h with rfl | rfl | rfl | rfl | rfl <;> rfl
theorem fZ (k:Nat) (n:Int) (t:List UInt8) (ht:t.length≤4611686018427387904) (h2:n≤9223372036854775807) (w:World) (hw:cH w) :
  Calls prog 32 #[.agg #[.int .u8 (k:Nat),.int .i64 n,.string ⟨t.toArray⟩]] w fun e w'=>e=.returned (.tuple #[.string ⟨(iO k n t).1.toArray⟩,.int .i64 (iO k n t).2])∧Below w.heap.size w w':=by
 by_cases hg:dD k n t
 ·rw [je hg]
  rcases hg with ⟨rfl,h0,rfl⟩ | ⟨rfl,h0,rfl⟩ | ⟨rfl,rfl,h1,hp⟩ | ⟨rfl,⟨h1,h5⟩,rfl⟩
  ·exact xx n h0 h2 w
  ·rcases h0 with rfl | rfl
   ·exact xw w
   exact uP w
  ·exact xy t h1 hp w (Lib.hid hw)
  rw [← wM n h1 h5]
  exact xv n h1 h5 w (Lib.hid hw.1)
 rw [qo hg]
 exact xu k n t ht hg w
theorem pf (w:World) :
  Calls prog 90 #[] w fun e w'=>∃ r,e=.returned (.map (some r))∧w'.heap[r]?=some (.map nC 12)∧Below w.heap.size w w':=by
 refine (qM w).mono ?_
 rintro e w1 ⟨rfl,rfl⟩
 exact ⟨_,rfl,iy _ _,(Below.refl _ _).alloc (Nat.le_refl _) _⟩
theorem yu (k:Nat) (n:Int) (t:List UInt8) (ht:t.length≤4611686018427387904) (h2:n≤9223372036854775807) (w:World) (HW:Hid (cH w)) :
  Calls prog 52 #[.agg #[.int .u8 1,.int .u8 (k:Nat),.int .i64 n,.string ⟨t.toArray⟩,.int .i64 0,.int .i64 0,.int .i64 0,.int .i64 0,.int .i64 0,.int .u8 0,.int .i64 0]] w fun e w'=>e=.returned (.string ⟨(iO k n t).1.toArray⟩)∧Below w.heap.size w w':=by
 obtain ⟨LV,hLV⟩:=ex (iO k n t)
 have HLT:=keep (fun (w2:World) (hw2:cH w2)=>show Calls prog 32 #[.agg #[.int .u8 (k:Nat),.int .i64 n,.string ⟨t.toArray⟩]] w2 fun e w'=>e=.returned (.tuple #[.string ⟨LV.1.toArray⟩,.int .i64 LV.2])∧Below w2.heap.size w2 w' by rw [← hLV]; exact fZ k n t ht h2 w2 hw2)
 rw [hLV]
 clear hLV ht h2
 have H1:=Lib.hid ((Ok.start w).alloc w.heap.size 39 [.int .u8 1,.int .u8 (k:Nat),.int .i64 n,.string ⟨t.toArray⟩,.int .i64 0,.int .i64 0,.int .i64 0,.int .i64 0,.int .i64 0,.int .u8 0,.int .i64 0] rfl)
 go_enter func52,ntmps52
 go_wp2_with fail
 generalize (w.alloc (.cells #[.int .u8 1,.int .u8 (k:Nat),.int .i64 n,.string ⟨t.toArray⟩,.int .i64 0,.int .i64 0,.int .i64 0,.int .i64 0,.int .i64 0,.int .u8 0,.int .i64 0] 39))=W2 at H1 ⊢
 refine cM (HLT.out _ (HW.out.below (am (Below.refl _ _) H1.out.bel))) H1 fun w3 H5=>?_
 clear H1
 have F6:=sE H5
 go_wp2_with fail
 go_ret
 exact ⟨rfl,H5.out.bel⟩
theorem AI (a b c d:Int) (w:World) (HW:Hid (cH w)) :
  Calls prog 52 #[.agg #[.int .u8 2,.int .u8 0,.int .i64 0,.string ⟨#[]⟩,.int .i64 a,.int .i64 b,.int .i64 c,.int .i64 d,.int .i64 0,.int .u8 0,.int .i64 0]] w fun e w'=>e=.returned (.string ⟨(ej ⟨a,b,c,d⟩).1.toArray⟩)∧Below w.heap.size w w':=by
 obtain ⟨LV,hLV⟩:=ex (ej ⟨a,b,c,d⟩)
 have HRF:=keep (fun (w2:World) (hw2:Pow w2)=>show Calls prog 89 #[.agg #[.int .i64 a,.int .i64 b,.int .i64 c,.int .i64 d]] w2 fun e w'=>e=.returned (.tuple #[.string ⟨LV.1.toArray⟩,.int .i64 LV.2])∧Below w2.heap.size w2 w' by rw [← hLV]; exact kz a b c d w2 hw2)
 rw [hLV]
 clear hLV
 have H1:=Lib.hid ((Ok.start w).alloc w.heap.size 39 [.int .u8 2,.int .u8 0,.int .i64 0,.string ⟨#[]⟩,.int .i64 a,.int .i64 b,.int .i64 c,.int .i64 d,.int .i64 0,.int .u8 0,.int .i64 0] rfl)
 go_enter func52,ntmps52
 go_wp2_with fail
 generalize (w.alloc (.cells #[.int .u8 2,.int .u8 0,.int .i64 0,.string ⟨#[]⟩,.int .i64 a,.int .i64 b,.int .i64 c,.int .i64 d,.int .i64 0,.int .u8 0,.int .i64 0] 39))=W2 at H1 ⊢
 refine cM (HRF.out _ (HW.out.below (am (Below.refl _ _) H1.out.bel)).2.1) H1 fun w3 H5=>?_
 clear H1
 have F6:=sE H5
 go_wp2_with fail
 go_ret
 exact ⟨rfl,H5.out.bel⟩
theorem AJ (a b c d:Int) (w:World) (HW:Hid (cH w)) :
  Calls prog 52 #[.agg #[.int .u8 3,.int .u8 0,.int .i64 0,.string ⟨#[]⟩,.int .i64 a,.int .i64 b,.int .i64 c,.int .i64 d,.int .i64 0,.int .u8 0,.int .i64 0]] w fun e w'=>e=.returned (.string ⟨(ej ⟨a,b,c,d⟩).1.toArray⟩)∧Below w.heap.size w w':=by
 obtain ⟨LV,hLV⟩:=ex (ej ⟨a,b,c,d⟩)
 have HRF:=keep (fun (w2:World) (hw2:Pow w2)=>show Calls prog 89 #[.agg #[.int .i64 a,.int .i64 b,.int .i64 c,.int .i64 d]] w2 fun e w'=>e=.returned (.tuple #[.string ⟨LV.1.toArray⟩,.int .i64 LV.2])∧Below w2.heap.size w2 w' by rw [← hLV]; exact kz a b c d w2 hw2)
 rw [hLV]
 clear hLV
 have H1:=Lib.hid ((Ok.start w).alloc w.heap.size 39 [.int .u8 3,.int .u8 0,.int .i64 0,.string ⟨#[]⟩,.int .i64 a,.int .i64 b,.int .i64 c,.int .i64 d,.int .i64 0,.int .u8 0,.int .i64 0] rfl)
 go_enter func52,ntmps52
 go_wp2_with fail
 generalize (w.alloc (.cells #[.int .u8 3,.int .u8 0,.int .i64 0,.string ⟨#[]⟩,.int .i64 a,.int .i64 b,.int .i64 c,.int .i64 d,.int .i64 0,.int .u8 0,.int .i64 0] 39))=W2 at H1 ⊢
 refine cM (HRF.out _ (HW.out.below (am (Below.refl _ _) H1.out.bel)).2.1) H1 fun w3 H5=>?_
 clear H1
 have F6:=sE H5
 go_wp2_with fail
 go_ret
 exact ⟨rfl,H5.out.bel⟩
theorem Bt (w:World) :
  Calls prog 52 #[.agg #[.int .u8 4,.int .u8 0,.int .i64 0,.string ⟨#[]⟩,.int .i64 0,.int .i64 0,.int .i64 0,.int .i64 0,.int .i64 0,.int .u8 0,.int .i64 0]] w fun e w'=>e=.returned (.string ⟨#[110,101,103]⟩)∧Below w.heap.size w w':=by
 have H1:=Lib.hid ((Ok.start w).alloc w.heap.size 39 [.int .u8 4,.int .u8 0,.int .i64 0,.string ⟨#[]⟩,.int .i64 0,.int .i64 0,.int .i64 0,.int .i64 0,.int .i64 0,.int .u8 0,.int .i64 0] rfl)
 go_enter func52,ntmps52
 go_wp2_with fail
 generalize (w.alloc (.cells #[.int .u8 4,.int .u8 0,.int .i64 0,.string ⟨#[]⟩,.int .i64 0,.int .i64 0,.int .i64 0,.int .i64 0,.int .i64 0,.int .u8 0,.int .i64 0] 39))=W2 at H1 ⊢
 go_ret
 exact ⟨rfl,H1.out.bel⟩
theorem Bu (w:World) :
  Calls prog 52 #[.agg #[.int .u8 5,.int .u8 0,.int .i64 0,.string ⟨#[]⟩,.int .i64 0,.int .i64 0,.int .i64 0,.int .i64 0,.int .i64 0,.int .u8 0,.int .i64 0]] w fun e w'=>e=.returned (.string ⟨#[112,101,114,99,101,110,116]⟩)∧Below w.heap.size w w':=by
 have H1:=Lib.hid ((Ok.start w).alloc w.heap.size 39 [.int .u8 5,.int .u8 0,.int .i64 0,.string ⟨#[]⟩,.int .i64 0,.int .i64 0,.int .i64 0,.int .i64 0,.int .i64 0,.int .u8 0,.int .i64 0] rfl)
 go_enter func52,ntmps52
 go_wp2_with fail
 generalize (w.alloc (.cells #[.int .u8 5,.int .u8 0,.int .i64 0,.string ⟨#[]⟩,.int .i64 0,.int .i64 0,.int .i64 0,.int .i64 0,.int .i64 0,.int .u8 0,.int .i64 0] 39))=W2 at H1 ⊢
 go_ret
 exact ⟨rfl,H1.out.bel⟩
theorem Bw (fn:Nat) (k:Nat) (h1:1≤fn) (h50:fn≤50) (w:World) :
  Calls prog 52 #[.agg #[.int .u8 7,.int .u8 0,.int .i64 0,.string ⟨#[]⟩,.int .i64 0,.int .i64 0,.int .i64 0,.int .i64 0,.int .i64 0,.int .u8 (fn:Nat),.int .i64 (k:Nat)]] w fun e w'=>e=.returned (.string ⟨(aC fn).toArray⟩)∧Below w.heap.size w w':=by
 obtain ⟨X,hX⟩:=ex (aC fn)
 have HNM:=keep (fun (w2:World)=>show Calls prog 91 #[.int .u8 (fn:Nat)] w2 fun e w'=>e=.returned (.tuple #[.string ⟨X.toArray⟩,.int .i64 0])∧Below w2.heap.size w2 w' by rw [← hX]; exact tG fn h1 h50 w2)
 rw [hX]
 clear hX h1 h50
 have H1:=Lib.hid ((Ok.start w).alloc w.heap.size 39 [.int .u8 7,.int .u8 0,.int .i64 0,.string ⟨#[]⟩,.int .i64 0,.int .i64 0,.int .i64 0,.int .i64 0,.int .i64 0,.int .u8 (fn:Nat),.int .i64 (k:Nat)] rfl)
 go_enter func52,ntmps52
 go_wp2_with fail
 generalize (w.alloc (.cells #[.int .u8 7,.int .u8 0,.int .i64 0,.string ⟨#[]⟩,.int .i64 0,.int .i64 0,.int .i64 0,.int .i64 0,.int .i64 0,.int .u8 (fn:Nat),.int .i64 (k:Nat)] 39))=W2 at H1 ⊢
 refine cM (HNM.out _) H1 fun w3 H5=>?_
 clear H1
 have F6:=sE H5
 go_wp2_with fail
 go_ret
 exact ⟨rfl,H5.out.bel⟩
theorem Bv (op:Int) (h1:1≤op) (h12:op≤12) (w:World) :
  Calls prog 52 #[.agg #[.int .u8 6,.int .u8 0,.int .i64 0,.string ⟨#[]⟩,.int .i64 0,.int .i64 0,.int .i64 0,.int .i64 0,.int .i64 op,.int .u8 0,.int .i64 0]] w fun e w'=>e=.returned (.string ⟨(dQ op).toArray⟩)∧Below w.heap.size w w':=by
 obtain ⟨X,hX⟩:=ex (dQ op)
 have HSG:=keep (yK op h1 h12)
 rw [hX] at HSG ⊢
 clear hX h1 h12
 have H1:=Lib.hid ((Ok.start w).alloc w.heap.size 39 [.int .u8 6,.int .u8 0,.int .i64 0,.string ⟨#[]⟩,.int .i64 0,.int .i64 0,.int .i64 0,.int .i64 0,.int .i64 op,.int .u8 0,.int .i64 0] rfl)
 go_enter func52,ntmps52
 go_upto_region 13 with fail
 generalize (w.alloc (.cells #[.int .u8 6,.int .u8 0,.int .i64 0,.string ⟨#[]⟩,.int .i64 0,.int .i64 0,.int .i64 0,.int .i64 0,.int .i64 op,.int .u8 0,.int .i64 0] 39))=W2 at H1 ⊢
 refine wp_region_held_drew (S:=fun W=>Ok w [af (w.heap.size) 39 [.int .u8 6,.int .u8 0,.int .i64 0,.string ⟨#[]⟩,.int .i64 0,.int .i64 0,.int .i64 0,.int .i64 0,.int .i64 op,.int .u8 0,.int .i64 0]] W) (by kernel_rfl) H1.out.drew (fun hHeld => ?_)
 have H3:=Lib.hid H1.out.drew
 clear H1
 generalize W2.drew=W4 at hHeld H3 ⊢
 refine wt3 1 ?_
 refine wt3 2 ?_
 refine wal 0 fun K hK => ?_
 go_simp
 refine (pf _).mono ?_
 rintro e w5 ⟨r,rfl,hr,hb6⟩
 go_wp2_with fail
 have H7:=Lib.hid (H3.out.below hb6)
 clear hb6 H3
 have hlk:=HSG.out r w5 hr
 clear hr
 refine hK.out _ _ (H7.out) (fun hHeld => ?_)
 clear hK K
 refine wn ?_
 refine wal 3 fun K hK => ?_
 go_simp
 go_wp2_with fail
 clear hlk
 refine hK.out _ _ (H7.out) (fun hHeld => ?_)
 clear hK K
 refine wn ?_
 refine wt3 4 ?_
 refine wpAnyH_done (by kernel_rfl) ?_ _
 clear hHeld
 have F8:=sE H7
 go_wp2_with fail
 go_ret
 exact ⟨rfl,H7.out.bel⟩
theorem dK (n:Nd) (hg:aJ n) (hn:n.vn≤9223372036854775807) (w:World) (hw:cH w) :
  Calls prog 52 #[ndA n] w fun e w'=>e=.returned (.string ⟨(bn n).toArray⟩)∧Below w.heap.size w w':=by
 have rng:∀ r:R4,aE r=true→jr r=(ej r).1:=by
  intro r h
  rw [i8 h]
  rfl
 rcases hg with ⟨vk,vn,vt,rfl,hv⟩ | ⟨⟨a,b,c,d⟩,rfl,hc,h1,h2⟩ | ⟨⟨a,b,c,d⟩,rfl,hc,hne⟩ | rfl | rfl | ⟨op,rfl,h1,h2⟩ | ⟨fn,k,rfl,h1,h2,h3,h4⟩
 ·have e:bn ⟨1,vk,vn,vt,R4.zero,0,0,0⟩=(iO vk vn vt).1:=by rw [je hv]; rfl
  rw [e]
  have hl:=hZ (n:=⟨1,vk,vn,vt,R4.zero,0,0,0⟩) (.inl ⟨vk,vn,vt,rfl,hv⟩)
  have hl:vt.length≤256:=hl
  exact yu vk vn vt (by omega) hn w (Lib.hid hw)
 ·have e:bn (cJ ⟨a,b,c,d⟩)=(ej ⟨a,b,c,d⟩).1:=(show bn (cJ ⟨a,b,c,d⟩)=jr ⟨a,b,c,d⟩ from rfl).trans (rng _ hc)
  rw [e]
  exact AI a b c d w (Lib.hid hw)
 ·have e:bn (aK ⟨a,b,c,d⟩)=(ej ⟨a,b,c,d⟩).1:=(show bn (aK ⟨a,b,c,d⟩)=jr ⟨a,b,c,d⟩ from rfl).trans (rng _ hc)
  rw [e]
  exact AJ a b c d w (Lib.hid hw)
 ·exact Bt w
 ·exact Bu w
 ·exact Bv op h1 h2 w
 exact Bw fn k h1 h2 w
