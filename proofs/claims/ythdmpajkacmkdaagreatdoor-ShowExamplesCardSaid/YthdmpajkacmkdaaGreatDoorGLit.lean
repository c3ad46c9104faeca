/- show.Literal and show.own. -/
import Derived.Test.YthdmpajkacmkdaaGreatDoorGShn
import Derived.Test.YthdmpajkacmkdaaGreatDoorGTg
import Derived.Test.YthdmpajkacmkdaaGreatDoorGForB
namespace Go.Proofs.YthdmpajkacmkdaaGreatDoor
set_option maxRecDepth 100000
set_option maxHeartbeats 4000000
open Go.RowKit Go.Proofs.Tryz
def gA (k:Nat) (n:Int) (t:List UInt8):NdA:=⟨1,k,n,t,R4.zero,0,0,0⟩
theorem fM {w:World} {b:Nat} {a:NdA} (h:Blk w b 27 (bf a).toArray):ax w (some ⟨b,0,none⟩) 11 ([a].map bf):=by
 intro _
 refine ⟨b,0,rfl,h.lt,fun i r hi j v hj => ?_⟩
 cases i with
 | zero =>
  obtain rfl:=Option.some.inj hi
  rw [h.cell,Nat.zero_mul,Nat.zero_add,Nat.zero_add]
  simpa using hj
 | succ i=>cases hi
theorem eC (k:Nat) (n:Int) (t:List UInt8):(dF k n t→aC [gA k n t]=0)∧(¬ dF k n t→aC [gA k n t]≠0):=by
 constructor
 ·intro h
  have hg:aL ⟨1,k,n,t,R4.zero,0,0,0⟩:=.inl ⟨k,n,t,rfl,h⟩
  have e:[gA k n t]=[(⟨1,k,n,t,R4.zero,0,0,0⟩:Nd)].map Nd.any:=rfl
  rw [e,iX (by intro x hx; rw [List.mem_singleton] at hx; subst hx; exact hg)]
  rfl
 intro h h0
 have:=(eY h0).1 (gA k n t) (by simp)
 have:=(cW this).1
 rcases this with ⟨vk,vn,vt,e,hv⟩ | ⟨r,e,_⟩ | ⟨r,e,_⟩ | e | e | ⟨op,e,_⟩ | ⟨fn,k,e,_⟩
 ·have e1:k=vk:=congrArg Nd.vk e
  have e2:n=vn:=congrArg Nd.vn e
  have e3:t=vt:=congrArg Nd.vt e
  rw [e1,e2,e3] at h
  exact h hv
 all_goals (have:=congrArg Nd.kind e; simp [gA,NdA.nd,cL,aM,ck,bS,aI,bI] at this)
open Classical in
noncomputable def gS (k:Nat) (n:Int) (t:List UInt8):List UInt8×Int:=if dF k n t then (tkT (tkV ⟨1,k,n,t,R4.zero,0,0,0⟩),0) else ([],2)
theorem jy {k:Nat} {n:Int} {t:List UInt8} (h:dF k n t):gS k n t=(tkT (tkV ⟨1,k,n,t,R4.zero,0,0,0⟩),0):=if_pos h
theorem qM {k:Nat} {n:Int} {t:List UInt8} (h:¬ dF k n t):gS k n t=([],2):=if_neg h
theorem xP (k:Nat) (n:Int) (t:List UInt8) (ht:t.length≤4611686018427387904) (hg:¬ dF k n t) (w:World) :
  Calls prog 15 #[.agg #[.int .u8 (k:Nat),.int .i64 n,.string ⟨t.toArray⟩]] w fun e w'=>e=.returned (.tuple #[.string ⟨#[]⟩,.int .i64 2])∧Below w.heap.size w w':=by
 have HTX:=keep ht
 have HCK:=keep ((eC k n t).2 hg)
 clear ht hg
 have H1:=Lib.hid (((Ok.start w).alloc w.heap.size 23 [.int .u8 (k:Nat),.int .i64 n,.string ⟨t.toArray⟩] rfl).alloc (w.heap.size+1) 27 [.int .u8 1,.int .u8 (k:Nat),.int .i64 n,.string ⟨t.toArray⟩,.int .i64 0,.int .i64 0,.int .i64 0,.int .i64 0,.int .i64 0,.int .u8 0,.int .i64 0] (by simp))
 go_enter func15,ntmps15
 go_wp2_with fail
 generalize ((w.alloc (.cells #[.int .u8 (k:Nat),.int .i64 n,.string ⟨t.toArray⟩] 23)).alloc (.cells #[.int .u8 1,.int .u8 (k:Nat),.int .i64 n,.string ⟨t.toArray⟩,.int .i64 0,.int .i64 0,.int .i64 0,.int .i64 0,.int .i64 0,.int .u8 0,.int .i64 0] 27))=W2 at H1 ⊢
 have HRW:=keep (fM (a:=(gA k n t)) (show Blk _ _ _ _ from H1.out.get (af (w.heap.size+1) 27 [.int .u8 1,.int .u8 (k:Nat),.int .i64 n,.string ⟨t.toArray⟩,.int .i64 0,.int .i64 0,.int .i64 0,.int .i64 0,.int .i64 0,.int .u8 0,.int .i64 0]) (by simp)))
 refine cM (bZ [(gA k n t)] (some ⟨w.heap.size+1,0,none⟩) 1 _ HRW.out (by show 1≤1000; decide) (by intro x hx; rw [List.mem_singleton] at hx; subst hx; exact HTX.out)) H1 fun w3 H5=>?_
 clear H1
 have F6:=sE H5
 obtain ⟨c,hc⟩:=ex (aC [(gA k n t)])
 rw [hc]
 have hc0:(c != 0)=true:=by rw [← hc]; simpa using HCK.out
 clear hc
 go_wp2_with fail
 exact bodyPost_ret (v:=.tuple #[.string ⟨#[]⟩,.int .i64 2]) (by simp [results,results15,go_sem]) rfl ⟨rfl,H5.out.bel⟩
theorem xS (n:Int) (h0:0≤n) (h2:n≤9223372036854775807) (w:World) :
  Calls prog 15 #[.agg #[.int .u8 1,.int .i64 n,.string ⟨#[]⟩]] w fun e w'=>e=.returned (.tuple #[.string ⟨(eK n).toArray⟩,.int .i64 0])∧Below w.heap.size w w':=by
 have HTX:=keep (show (([]:List UInt8)).length≤4611686018427387904 by decide)
 have HCK:=keep ((eC 1 n []).1 (.inl ⟨rfl,h0,rfl⟩))
 have H1:=Lib.hid (((Ok.start w).alloc w.heap.size 23 [.int .u8 1,.int .i64 n,.string ⟨#[]⟩] rfl).alloc (w.heap.size+1) 27 [.int .u8 1,.int .u8 1,.int .i64 n,.string ⟨#[]⟩,.int .i64 0,.int .i64 0,.int .i64 0,.int .i64 0,.int .i64 0,.int .u8 0,.int .i64 0] (by simp))
 go_enter func15,ntmps15
 go_wp2_with fail
 generalize ((w.alloc (.cells #[.int .u8 1,.int .i64 n,.string ⟨#[]⟩] 23)).alloc (.cells #[.int .u8 1,.int .u8 1,.int .i64 n,.string ⟨#[]⟩,.int .i64 0,.int .i64 0,.int .i64 0,.int .i64 0,.int .i64 0,.int .u8 0,.int .i64 0] 27))=W2 at H1 ⊢
 have HRW:=keep (fM (a:=(gA 1 n [])) (show Blk _ _ _ _ from H1.out.get (af (w.heap.size+1) 27 [.int .u8 1,.int .u8 1,.int .i64 n,.string ⟨#[]⟩,.int .i64 0,.int .i64 0,.int .i64 0,.int .i64 0,.int .i64 0,.int .u8 0,.int .i64 0]) (by simp)))
 refine cM (bZ [(gA 1 n [])] (some ⟨w.heap.size+1,0,none⟩) 1 _ HRW.out (by show 1≤1000; decide) (by intro x hx; rw [List.mem_singleton] at hx; subst hx; exact HTX.out)) H1 fun w3 H5=>?_
 clear H1
 have F6:=sE H5
 rw [HCK.out]
 go_wp2_with fail
 refine cM (qh n _ (by omega) h2) H5 fun w7 H9=>?_
 clear F6 H5
 have F10:=sE H9
 go_wp2_with fail
 exact bodyPost_ret (v:=.tuple #[.string ⟨(eK n).toArray⟩,.int .i64 0]) (by simp [results,results15,go_sem]) rfl ⟨rfl,H9.out.bel⟩
theorem vl  (w:World) :
  Calls prog 15 #[.agg #[.int .u8 2,.int .i64 1,.string ⟨#[]⟩]] w fun e w'=>e=.returned (.tuple #[.string ⟨#[84,82,85,69]⟩,.int .i64 0])∧Below w.heap.size w w':=by
 have HTX:=keep (show (([]:List UInt8)).length≤4611686018427387904 by decide)
 have HCK:=keep ((eC 2 1 []).1 (.inr (.inl ⟨rfl,by decide,rfl⟩)))
 have H1:=Lib.hid (((Ok.start w).alloc w.heap.size 23 [.int .u8 2,.int .i64 1,.string ⟨#[]⟩] rfl).alloc (w.heap.size+1) 27 [.int .u8 1,.int .u8 2,.int .i64 1,.string ⟨#[]⟩,.int .i64 0,.int .i64 0,.int .i64 0,.int .i64 0,.int .i64 0,.int .u8 0,.int .i64 0] (by simp))
 go_enter func15,ntmps15
 go_wp2_with fail
 generalize ((w.alloc (.cells #[.int .u8 2,.int .i64 1,.string ⟨#[]⟩] 23)).alloc (.cells #[.int .u8 1,.int .u8 2,.int .i64 1,.string ⟨#[]⟩,.int .i64 0,.int .i64 0,.int .i64 0,.int .i64 0,.int .i64 0,.int .u8 0,.int .i64 0] 27))=W2 at H1 ⊢
 have HRW:=keep (fM (a:=(gA 2 1 [])) (show Blk _ _ _ _ from H1.out.get (af (w.heap.size+1) 27 [.int .u8 1,.int .u8 2,.int .i64 1,.string ⟨#[]⟩,.int .i64 0,.int .i64 0,.int .i64 0,.int .i64 0,.int .i64 0,.int .u8 0,.int .i64 0]) (by simp)))
 refine cM (bZ [(gA 2 1 [])] (some ⟨w.heap.size+1,0,none⟩) 1 _ HRW.out (by show 1≤1000; decide) (by intro x hx; rw [List.mem_singleton] at hx; subst hx; exact HTX.out)) H1 fun w3 H5=>?_
 clear H1
 have F6:=sE H5
 rw [HCK.out]
 go_wp2_with fail
 refine cM (zf (by decide) (bA (.inr (.inr (.inl ⟨rfl,rfl,by decide⟩)))) _) H5 fun w7 H9=>?_
 clear F6 H5
 have F10:=sE H9
 go_wp2_with fail
 exact bodyPost_ret (v:=.tuple #[.string ⟨#[84,82,85,69]⟩,.int .i64 0]) (by simp [results,results15,go_sem]) rfl ⟨rfl,H9.out.bel⟩
theorem xR  (w:World) :
  Calls prog 15 #[.agg #[.int .u8 2,.int .i64 0,.string ⟨#[]⟩]] w fun e w'=>e=.returned (.tuple #[.string ⟨#[70,65,76,83,69]⟩,.int .i64 0])∧Below w.heap.size w w':=by
 have HTX:=keep (show (([]:List UInt8)).length≤4611686018427387904 by decide)
 have HCK:=keep ((eC 2 0 []).1 (.inr (.inl ⟨rfl,by decide,rfl⟩)))
 have H1:=Lib.hid (((Ok.start w).alloc w.heap.size 23 [.int .u8 2,.int .i64 0,.string ⟨#[]⟩] rfl).alloc (w.heap.size+1) 27 [.int .u8 1,.int .u8 2,.int .i64 0,.string ⟨#[]⟩,.int .i64 0,.int .i64 0,.int .i64 0,.int .i64 0,.int .i64 0,.int .u8 0,.int .i64 0] (by simp))
 go_enter func15,ntmps15
 go_wp2_with fail
 generalize ((w.alloc (.cells #[.int .u8 2,.int .i64 0,.string ⟨#[]⟩] 23)).alloc (.cells #[.int .u8 1,.int .u8 2,.int .i64 0,.string ⟨#[]⟩,.int .i64 0,.int .i64 0,.int .i64 0,.int .i64 0,.int .i64 0,.int .u8 0,.int .i64 0] 27))=W2 at H1 ⊢
 have HRW:=keep (fM (a:=(gA 2 0 [])) (show Blk _ _ _ _ from H1.out.get (af (w.heap.size+1) 27 [.int .u8 1,.int .u8 2,.int .i64 0,.string ⟨#[]⟩,.int .i64 0,.int .i64 0,.int .i64 0,.int .i64 0,.int .i64 0,.int .u8 0,.int .i64 0]) (by simp)))
 refine cM (bZ [(gA 2 0 [])] (some ⟨w.heap.size+1,0,none⟩) 1 _ HRW.out (by show 1≤1000; decide) (by intro x hx; rw [List.mem_singleton] at hx; subst hx; exact HTX.out)) H1 fun w3 H5=>?_
 clear H1
 have F6:=sE H5
 rw [HCK.out]
 go_wp2_with fail
 refine cM (ze (by decide) (bA (.inr (.inr (.inl ⟨rfl,rfl,by decide⟩)))) _) H5 fun w7 H9=>?_
 clear F6 H5
 have F10:=sE H9
 go_wp2_with fail
 exact bodyPost_ret (v:=.tuple #[.string ⟨#[70,65,76,83,69]⟩,.int .i64 0]) (by simp [results,results15,go_sem]) rfl ⟨rfl,H9.out.bel⟩
theorem xQ (c:Int) (h1:1≤c) (h5:c≤5) (w:World) (HW:Hid (Words w)) :
  Calls prog 15 #[.agg #[.int .u8 4,.int .i64 c,.string ⟨#[]⟩]] w fun e w'=>e=.returned (.tuple #[.string ⟨(bJ[c.toNat]?.getD []).toArray⟩,.int .i64 0])∧Below w.heap.size w w':=by
 have HTX:=keep (show (([]:List UInt8)).length≤4611686018427387904 by decide)
 have HCK:=keep ((eC 4 c []).1 (.inr (.inr (.inr ⟨rfl,⟨h1,h5⟩,rfl⟩))))
 have H1:=Lib.hid (((Ok.start w).alloc w.heap.size 23 [.int .u8 4,.int .i64 c,.string ⟨#[]⟩] rfl).alloc (w.heap.size+1) 27 [.int .u8 1,.int .u8 4,.int .i64 c,.string ⟨#[]⟩,.int .i64 0,.int .i64 0,.int .i64 0,.int .i64 0,.int .i64 0,.int .u8 0,.int .i64 0] (by simp))
 go_enter func15,ntmps15
 go_wp2_with fail
 generalize ((w.alloc (.cells #[.int .u8 4,.int .i64 c,.string ⟨#[]⟩] 23)).alloc (.cells #[.int .u8 1,.int .u8 4,.int .i64 c,.string ⟨#[]⟩,.int .i64 0,.int .i64 0,.int .i64 0,.int .i64 0,.int .i64 0,.int .u8 0,.int .i64 0] 27))=W2 at H1 ⊢
 have HRW:=keep (fM (a:=(gA 4 c [])) (show Blk _ _ _ _ from H1.out.get (af (w.heap.size+1) 27 [.int .u8 1,.int .u8 4,.int .i64 c,.string ⟨#[]⟩,.int .i64 0,.int .i64 0,.int .i64 0,.int .i64 0,.int .i64 0,.int .u8 0,.int .i64 0]) (by simp)))
 refine cM (bZ [(gA 4 c [])] (some ⟨w.heap.size+1,0,none⟩) 1 _ HRW.out (by show 1≤1000; decide) (by intro x hx; rw [List.mem_singleton] at hx; subst hx; exact HTX.out)) H1 fun w3 H5=>?_
 clear H1
 have F6:=sE H5
 rw [HCK.out]
 go_wp2_with fail
 refine cM (mc c h1 (by omega) _ (Words.below HW.out (an (Below.refl _ _) H5.out.bel))) H5 fun w7 H9=>?_
 clear F6 H5
 have F10:=sE H9
 go_wp2_with fail
 exact bodyPost_ret (v:=.tuple #[.string ⟨(bJ[c.toNat]?.getD []).toArray⟩,.int .i64 0]) (by simp [results,results15,go_sem]) rfl ⟨rfl,H9.out.bel⟩
theorem xT (t:List UInt8) (h:t.length≤256) (hp:t.all aB=true) (w:World) (HW:Hid (cn w)) :
  Calls prog 15 #[.agg #[.int .u8 3,.int .i64 0,.string ⟨t.toArray⟩]] w fun e w'=>e=.returned (.tuple #[.string ⟨(cY t).toArray⟩,.int .i64 0])∧Below w.heap.size w w':=by
 have HTX:=keep (show t.length≤4611686018427387904 by omega)
 have HCK:=keep ((eC 3 0 t).1 (.inr (.inr (.inl ⟨rfl,rfl,h,hp⟩))))
 have HC0:=keep (show bm t=0 by unfold bm; rw [if_neg (by omega),if_pos hp])
 clear h hp
 have H1:=Lib.hid (((Ok.start w).alloc w.heap.size 23 [.int .u8 3,.int .i64 0,.string ⟨t.toArray⟩] rfl).alloc (w.heap.size+1) 27 [.int .u8 1,.int .u8 3,.int .i64 0,.string ⟨t.toArray⟩,.int .i64 0,.int .i64 0,.int .i64 0,.int .i64 0,.int .i64 0,.int .u8 0,.int .i64 0] (by simp))
 go_enter func15,ntmps15
 go_wp2_with fail
 generalize ((w.alloc (.cells #[.int .u8 3,.int .i64 0,.string ⟨t.toArray⟩] 23)).alloc (.cells #[.int .u8 1,.int .u8 3,.int .i64 0,.string ⟨t.toArray⟩,.int .i64 0,.int .i64 0,.int .i64 0,.int .i64 0,.int .i64 0,.int .u8 0,.int .i64 0] 27))=W2 at H1 ⊢
 have HRW:=keep (fM (a:=(gA 3 0 t)) (show Blk _ _ _ _ from H1.out.get (af (w.heap.size+1) 27 [.int .u8 1,.int .u8 3,.int .i64 0,.string ⟨t.toArray⟩,.int .i64 0,.int .i64 0,.int .i64 0,.int .i64 0,.int .i64 0,.int .u8 0,.int .i64 0]) (by simp)))
 refine cM (bZ [(gA 3 0 t)] (some ⟨w.heap.size+1,0,none⟩) 1 _ HRW.out (by show 1≤1000; decide) (by intro x hx; rw [List.mem_singleton] at hx; subst hx; exact HTX.out)) H1 fun w3 H5=>?_
 clear H1
 have F6:=sE H5
 rw [HCK.out]
 go_wp2_with fail
 refine cM (oD ⟨t.toArray⟩ _ HTX.out ((HW.out.below (an (Below.refl _ _) H5.out.bel)).2.2)) H5 fun w7 H9=>?_
 rw [show eP (⟨t.toArray⟩:ByteArray).data.toList=cY t from if_pos HC0.out,show bm (⟨t.toArray⟩:ByteArray).data.toList=0 from HC0.out]
 clear F6 H5
 have F10:=sE H9
 go_wp2_with fail
 exact bodyPost_ret (v:=.tuple #[.string ⟨(cY t).toArray⟩,.int .i64 0]) (by simp [results,results15,go_sem]) rfl ⟨rfl,H9.out.bel⟩
theorem xi (c:Int) (h1:1≤c) (h5:c≤5):bJ[c.toNat]?.getD []=tkT (tkV ⟨1,4,c,[],R4.zero,0,0,0⟩):=by
 have h:c=1∨c=2∨c=3∨c=4∨c=5:=by omega
 rcases h with rfl | rfl | rfl | rfl | rfl <;> rfl
theorem eB (k:Nat) (n:Int) (t:List UInt8) (ht:t.length≤4611686018427387904) (h2:n≤9223372036854775807) (w:World) (hw:cn w) :
  Calls prog 15 #[.agg #[.int .u8 (k:Nat),.int .i64 n,.string ⟨t.toArray⟩]] w fun e w'=>e=.returned (.tuple #[.string ⟨(gS k n t).1.toArray⟩,.int .i64 (gS k n t).2])∧Below w.heap.size w w':=by
 by_cases hg:dF k n t
 ·rw [jy hg]
  rcases hg with ⟨rfl,h0,rfl⟩ | ⟨rfl,h0,rfl⟩ | ⟨rfl,rfl,h1,hp⟩ | ⟨rfl,⟨h1,h5⟩,rfl⟩
  ·exact xS n h0 h2 w
  ·rcases h0 with rfl | rfl
   ·exact xR w
   exact vl w
  ·exact xT t h1 hp w (Lib.hid hw)
  rw [← xi n h1 h5]
  exact xQ n h1 h5 w (Lib.hid hw.1)
 rw [qM hg]
 exact xP k n t ht hg w
theorem pI (w:World) :
  Calls prog 77 #[] w fun e w'=>∃ r,e=.returned (.map (some r))∧w'.heap[r]?=some (.map nY 12)∧Below w.heap.size w w':=by
 refine (rf w).mono ?_
 rintro e w1 ⟨rfl,rfl⟩
 exact ⟨_,rfl,iN _ _,(Below.refl _ _).alloc (Nat.le_refl _) _⟩
theorem yQ (k:Nat) (n:Int) (t:List UInt8) (ht:t.length≤4611686018427387904) (h2:n≤9223372036854775807) (w:World) (HW:Hid (cn w)) :
  Calls prog 44 #[.agg #[.int .u8 1,.int .u8 (k:Nat),.int .i64 n,.string ⟨t.toArray⟩,.int .i64 0,.int .i64 0,.int .i64 0,.int .i64 0,.int .i64 0,.int .u8 0,.int .i64 0]] w fun e w'=>e=.returned (.string ⟨(gS k n t).1.toArray⟩)∧Below w.heap.size w w':=by
 obtain ⟨LV,hLV⟩:=ex (gS k n t)
 have HLT:=keep (fun (w2:World) (hw2:cn w2)=>show Calls prog 15 #[.agg #[.int .u8 (k:Nat),.int .i64 n,.string ⟨t.toArray⟩]] w2 fun e w'=>e=.returned (.tuple #[.string ⟨LV.1.toArray⟩,.int .i64 LV.2])∧Below w2.heap.size w2 w' by rw [← hLV]; exact eB k n t ht h2 w2 hw2)
 rw [hLV]
 clear hLV ht h2
 have H1:=Lib.hid ((Ok.start w).alloc w.heap.size 27 [.int .u8 1,.int .u8 (k:Nat),.int .i64 n,.string ⟨t.toArray⟩,.int .i64 0,.int .i64 0,.int .i64 0,.int .i64 0,.int .i64 0,.int .u8 0,.int .i64 0] rfl)
 go_enter func44,ntmps44
 go_wp2_with fail
 generalize (w.alloc (.cells #[.int .u8 1,.int .u8 (k:Nat),.int .i64 n,.string ⟨t.toArray⟩,.int .i64 0,.int .i64 0,.int .i64 0,.int .i64 0,.int .i64 0,.int .u8 0,.int .i64 0] 27))=W2 at H1 ⊢
 refine cM (HLT.out _ (HW.out.below (an (Below.refl _ _) H1.out.bel))) H1 fun w3 H5=>?_
 clear H1
 have F6:=sE H5
 go_wp2_with fail
 go_ret
 exact ⟨rfl,H5.out.bel⟩
theorem Ba (a b c d:Int) (w:World) (HW:Hid (cn w)) :
  Calls prog 44 #[.agg #[.int .u8 2,.int .u8 0,.int .i64 0,.string ⟨#[]⟩,.int .i64 a,.int .i64 b,.int .i64 c,.int .i64 d,.int .i64 0,.int .u8 0,.int .i64 0]] w fun e w'=>e=.returned (.string ⟨(em ⟨a,b,c,d⟩).1.toArray⟩)∧Below w.heap.size w w':=by
 obtain ⟨LV,hLV⟩:=ex (em ⟨a,b,c,d⟩)
 have HRF:=keep (fun (w2:World) (hw2:Pow w2)=>show Calls prog 76 #[.agg #[.int .i64 a,.int .i64 b,.int .i64 c,.int .i64 d]] w2 fun e w'=>e=.returned (.tuple #[.string ⟨LV.1.toArray⟩,.int .i64 LV.2])∧Below w2.heap.size w2 w' by rw [← hLV]; exact kU a b c d w2 hw2)
 rw [hLV]
 clear hLV
 have H1:=Lib.hid ((Ok.start w).alloc w.heap.size 27 [.int .u8 2,.int .u8 0,.int .i64 0,.string ⟨#[]⟩,.int .i64 a,.int .i64 b,.int .i64 c,.int .i64 d,.int .i64 0,.int .u8 0,.int .i64 0] rfl)
 go_enter func44,ntmps44
 go_wp2_with fail
 generalize (w.alloc (.cells #[.int .u8 2,.int .u8 0,.int .i64 0,.string ⟨#[]⟩,.int .i64 a,.int .i64 b,.int .i64 c,.int .i64 d,.int .i64 0,.int .u8 0,.int .i64 0] 27))=W2 at H1 ⊢
 refine cM (HRF.out _ (HW.out.below (an (Below.refl _ _) H1.out.bel)).2.1) H1 fun w3 H5=>?_
 clear H1
 have F6:=sE H5
 go_wp2_with fail
 go_ret
 exact ⟨rfl,H5.out.bel⟩
theorem Bb (a b c d:Int) (w:World) (HW:Hid (cn w)) :
  Calls prog 44 #[.agg #[.int .u8 3,.int .u8 0,.int .i64 0,.string ⟨#[]⟩,.int .i64 a,.int .i64 b,.int .i64 c,.int .i64 d,.int .i64 0,.int .u8 0,.int .i64 0]] w fun e w'=>e=.returned (.string ⟨(em ⟨a,b,c,d⟩).1.toArray⟩)∧Below w.heap.size w w':=by
 obtain ⟨LV,hLV⟩:=ex (em ⟨a,b,c,d⟩)
 have HRF:=keep (fun (w2:World) (hw2:Pow w2)=>show Calls prog 76 #[.agg #[.int .i64 a,.int .i64 b,.int .i64 c,.int .i64 d]] w2 fun e w'=>e=.returned (.tuple #[.string ⟨LV.1.toArray⟩,.int .i64 LV.2])∧Below w2.heap.size w2 w' by rw [← hLV]; exact kU a b c d w2 hw2)
 rw [hLV]
 clear hLV
 have H1:=Lib.hid ((Ok.start w).alloc w.heap.size 27 [.int .u8 3,.int .u8 0,.int .i64 0,.string ⟨#[]⟩,.int .i64 a,.int .i64 b,.int .i64 c,.int .i64 d,.int .i64 0,.int .u8 0,.int .i64 0] rfl)
 go_enter func44,ntmps44
 go_wp2_with fail
 generalize (w.alloc (.cells #[.int .u8 3,.int .u8 0,.int .i64 0,.string ⟨#[]⟩,.int .i64 a,.int .i64 b,.int .i64 c,.int .i64 d,.int .i64 0,.int .u8 0,.int .i64 0] 27))=W2 at H1 ⊢
 refine cM (HRF.out _ (HW.out.below (an (Below.refl _ _) H1.out.bel)).2.1) H1 fun w3 H5=>?_
 clear H1
 have F6:=sE H5
 go_wp2_with fail
 go_ret
 exact ⟨rfl,H5.out.bel⟩
theorem BV (w:World) :
  Calls prog 44 #[.agg #[.int .u8 4,.int .u8 0,.int .i64 0,.string ⟨#[]⟩,.int .i64 0,.int .i64 0,.int .i64 0,.int .i64 0,.int .i64 0,.int .u8 0,.int .i64 0]] w fun e w'=>e=.returned (.string ⟨#[110,101,103]⟩)∧Below w.heap.size w w':=by
 have H1:=Lib.hid ((Ok.start w).alloc w.heap.size 27 [.int .u8 4,.int .u8 0,.int .i64 0,.string ⟨#[]⟩,.int .i64 0,.int .i64 0,.int .i64 0,.int .i64 0,.int .i64 0,.int .u8 0,.int .i64 0] rfl)
 go_enter func44,ntmps44
 go_wp2_with fail
 generalize (w.alloc (.cells #[.int .u8 4,.int .u8 0,.int .i64 0,.string ⟨#[]⟩,.int .i64 0,.int .i64 0,.int .i64 0,.int .i64 0,.int .i64 0,.int .u8 0,.int .i64 0] 27))=W2 at H1 ⊢
 go_ret
 exact ⟨rfl,H1.out.bel⟩
theorem BW (w:World) :
  Calls prog 44 #[.agg #[.int .u8 5,.int .u8 0,.int .i64 0,.string ⟨#[]⟩,.int .i64 0,.int .i64 0,.int .i64 0,.int .i64 0,.int .i64 0,.int .u8 0,.int .i64 0]] w fun e w'=>e=.returned (.string ⟨#[112,101,114,99,101,110,116]⟩)∧Below w.heap.size w w':=by
 have H1:=Lib.hid ((Ok.start w).alloc w.heap.size 27 [.int .u8 5,.int .u8 0,.int .i64 0,.string ⟨#[]⟩,.int .i64 0,.int .i64 0,.int .i64 0,.int .i64 0,.int .i64 0,.int .u8 0,.int .i64 0] rfl)
 go_enter func44,ntmps44
 go_wp2_with fail
 generalize (w.alloc (.cells #[.int .u8 5,.int .u8 0,.int .i64 0,.string ⟨#[]⟩,.int .i64 0,.int .i64 0,.int .i64 0,.int .i64 0,.int .i64 0,.int .u8 0,.int .i64 0] 27))=W2 at H1 ⊢
 go_ret
 exact ⟨rfl,H1.out.bel⟩
theorem BY (fn:Nat) (k:Nat) (h1:1≤fn) (h50:fn≤50) (w:World) :
  Calls prog 44 #[.agg #[.int .u8 7,.int .u8 0,.int .i64 0,.string ⟨#[]⟩,.int .i64 0,.int .i64 0,.int .i64 0,.int .i64 0,.int .i64 0,.int .u8 (fn:Nat),.int .i64 (k:Nat)]] w fun e w'=>e=.returned (.string ⟨(aE fn).toArray⟩)∧Below w.heap.size w w':=by
 obtain ⟨X,hX⟩:=ex (aE fn)
 have HNM:=keep (fun (w2:World)=>show Calls prog 78 #[.int .u8 (fn:Nat)] w2 fun e w'=>e=.returned (.tuple #[.string ⟨X.toArray⟩,.int .i64 0])∧Below w2.heap.size w2 w' by rw [← hX]; exact ub fn h1 h50 w2)
 rw [hX]
 clear hX h1 h50
 have H1:=Lib.hid ((Ok.start w).alloc w.heap.size 27 [.int .u8 7,.int .u8 0,.int .i64 0,.string ⟨#[]⟩,.int .i64 0,.int .i64 0,.int .i64 0,.int .i64 0,.int .i64 0,.int .u8 (fn:Nat),.int .i64 (k:Nat)] rfl)
 go_enter func44,ntmps44
 go_wp2_with fail
 generalize (w.alloc (.cells #[.int .u8 7,.int .u8 0,.int .i64 0,.string ⟨#[]⟩,.int .i64 0,.int .i64 0,.int .i64 0,.int .i64 0,.int .i64 0,.int .u8 (fn:Nat),.int .i64 (k:Nat)] 27))=W2 at H1 ⊢
 refine cM (HNM.out _) H1 fun w3 H5=>?_
 clear H1
 have F6:=sE H5
 go_wp2_with fail
 go_ret
 exact ⟨rfl,H5.out.bel⟩
theorem BX (op:Int) (h1:1≤op) (h12:op≤12) (w:World) :
  Calls prog 44 #[.agg #[.int .u8 6,.int .u8 0,.int .i64 0,.string ⟨#[]⟩,.int .i64 0,.int .i64 0,.int .i64 0,.int .i64 0,.int .i64 op,.int .u8 0,.int .i64 0]] w fun e w'=>e=.returned (.string ⟨(dS op).toArray⟩)∧Below w.heap.size w w':=by
 obtain ⟨X,hX⟩:=ex (dS op)
 have HSG:=keep (zg op h1 h12)
 rw [hX] at HSG ⊢
 clear hX h1 h12
 have H1:=Lib.hid ((Ok.start w).alloc w.heap.size 27 [.int .u8 6,.int .u8 0,.int .i64 0,.string ⟨#[]⟩,.int .i64 0,.int .i64 0,.int .i64 0,.int .i64 0,.int .i64 op,.int .u8 0,.int .i64 0] rfl)
 go_enter func44,ntmps44
 go_upto_region 13 with fail
 generalize (w.alloc (.cells #[.int .u8 6,.int .u8 0,.int .i64 0,.string ⟨#[]⟩,.int .i64 0,.int .i64 0,.int .i64 0,.int .i64 0,.int .i64 op,.int .u8 0,.int .i64 0] 27))=W2 at H1 ⊢
 refine wp_region_held_drew (S:=fun W=>Ok w [af (w.heap.size) 27 [.int .u8 6,.int .u8 0,.int .i64 0,.string ⟨#[]⟩,.int .i64 0,.int .i64 0,.int .i64 0,.int .i64 0,.int .i64 op,.int .u8 0,.int .i64 0]] W) (by kernel_rfl) H1.out.drew (fun hHeld => ?_)
 have H3:=Lib.hid H1.out.drew
 clear H1
 generalize W2.drew=W4 at hHeld H3 ⊢
 refine wt3 1 ?_
 refine wt3 2 ?_
 refine wal 0 fun K hK => ?_
 go_simp
 refine (pI _).mono ?_
 rintro e w5 ⟨r,rfl,hr,hb6⟩
 go_wp2_with fail
 have H7:=Lib.hid (H3.out.below hb6)
 clear hb6 H3
 have hlk:=HSG.out r w5 hr
 clear hr
 refine hK.out _ _ (H7.out) (fun hHeld => ?_)
 clear hK K
 refine wn ?_
 refine wal 3 fun K hK => ?_
 go_simp
 go_wp2_with fail
 clear hlk
 refine hK.out _ _ (H7.out) (fun hHeld => ?_)
 clear hK K
 refine wn ?_
 refine wt3 4 ?_
 refine wpAnyH_done (by kernel_rfl) ?_ _
 clear hHeld
 have F8:=sE H7
 go_wp2_with fail
 go_ret
 exact ⟨rfl,H7.out.bel⟩
theorem dM (n:Nd) (hg:aL n) (hn:n.vn≤9223372036854775807) (w:World) (hw:cn w) :
  Calls prog 44 #[ndA n] w fun e w'=>e=.returned (.string ⟨(bn n).toArray⟩)∧Below w.heap.size w w':=by
 have rng:∀ r:R4,aG r=true→jL r=(em r).1:=by
  intro r h
  rw [jr h]
  rfl
 rcases hg with ⟨vk,vn,vt,rfl,hv⟩ | ⟨⟨a,b,c,d⟩,rfl,hc,h1,h2⟩ | ⟨⟨a,b,c,d⟩,rfl,hc,hne⟩ | rfl | rfl | ⟨op,rfl,h1,h2⟩ | ⟨fn,k,rfl,h1,h2,h3,h4⟩
 ·have e:bn ⟨1,vk,vn,vt,R4.zero,0,0,0⟩=(gS vk vn vt).1:=by rw [jy hv]; rfl
  rw [e]
  have hl:=iu (n:=⟨1,vk,vn,vt,R4.zero,0,0,0⟩) (.inl ⟨vk,vn,vt,rfl,hv⟩)
  have hl:vt.length≤256:=hl
  exact yQ vk vn vt (by omega) hn w (Lib.hid hw)
 ·have e:bn (cL ⟨a,b,c,d⟩)=(em ⟨a,b,c,d⟩).1:=(show bn (cL ⟨a,b,c,d⟩)=jL ⟨a,b,c,d⟩ from rfl).trans (rng _ hc)
  rw [e]
  exact Ba a b c d w (Lib.hid hw)
 ·have e:bn (aM ⟨a,b,c,d⟩)=(em ⟨a,b,c,d⟩).1:=(show bn (aM ⟨a,b,c,d⟩)=jL ⟨a,b,c,d⟩ from rfl).trans (rng _ hc)
  rw [e]
  exact Bb a b c d w (Lib.hid hw)
 ·exact BV w
 ·exact BW w
 ·exact BX op h1 h2 w
 exact BY fn k h1 h2 w
