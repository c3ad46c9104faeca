/- louvreref08.Literal at any value. The reference's text of a literal, at any value. -/
import Derived.Test.YtdplcdhpnmcdjaaGreatDoorFRvk
import Derived.Test.YtdplcdhpnmcdjaaGreatDoorFTg
import Derived.Test.YtdplcdhpnmcdjaaGreatDoorFLit
import Derived.Test.YtdplcdhpnmcdjaaGreatDoorFParI
namespace Go.Proofs.YtdplcdhpnmcdjaaGreatDoor
set_option maxRecDepth 100000
set_option maxHeartbeats 4000000
open Go.RowKit Go.Proofs.Tryz
theorem mV (t:List UInt8):bm t=0↔t.length≤256∧t.all ay=true:=by
 unfold bm
 constructor
 ·intro h
  split at h
  ·exact absurd h (by decide)
  split at h
  ·exact ⟨by omega,by assumption⟩
  exact absurd h (by decide)
 rintro ⟨h1,h2⟩
 rw [if_neg (by omega),if_pos h2]
theorem dw {k:Nat} {n:Int} {t:List UInt8}:dD k n t↔cellV k n t∧k≠0∧(k=1→0≤n)∧(k=4→n≠6):=by
 unfold dD cellV
 rw [mV]
 constructor
 ·rintro (⟨rfl,h0,rfl⟩ | ⟨rfl,h0,rfl⟩ | ⟨rfl,rfl,h1,h2⟩ | ⟨rfl,⟨h1,h5⟩,rfl⟩)
  ·exact ⟨.inr (.inl ⟨rfl,rfl,by omega⟩),by decide,fun _=>h0,(fun h=>absurd h (by decide))⟩
  ·exact ⟨.inr (.inr (.inl ⟨rfl,rfl,h0⟩)),by decide,(fun h=>absurd h (by decide)),(fun h=>absurd h (by decide))⟩
  ·exact ⟨.inr (.inr (.inr (.inl ⟨rfl,rfl,h1,h2⟩))),by decide,(fun h=>absurd h (by decide)),(fun h=>absurd h (by decide))⟩
  exact ⟨.inr (.inr (.inr (.inr ⟨rfl,rfl,h1,by omega⟩))),by decide,(fun h=>absurd h (by decide)),fun _=>by omega⟩
 rintro ⟨⟨rfl,-⟩ | ⟨rfl,rfl,h0⟩ | ⟨rfl,rfl,h0⟩ | ⟨rfl,rfl,h1,h2⟩ | ⟨rfl,rfl,h1,h6⟩,g0,g1,g4⟩
 ·exact absurd rfl g0
 ·exact .inl ⟨rfl,g1 rfl,rfl⟩
 ·exact .inr (.inl ⟨rfl,h0,rfl⟩)
 ·exact .inr (.inr (.inl ⟨rfl,rfl,h1,h2⟩))
 exact .inr (.inr (.inr ⟨rfl,⟨h1,by have:=g4 rfl; omega⟩,rfl⟩))
open Classical in
noncomputable def l9 (k:Nat) (n:Int) (t:List UInt8):Bool:=decide (dD k n t)
theorem Ao (k n:Int) (s:ByteArray) (w:World) (HC:∀ w,Calls prog 40 #[.agg #[.int .u8 k,.int .i64 n,.string s]] w fun e w'=>e=.returned (.int .i64 2)∧Below w.heap.size w w') :
  Calls prog 68 #[.agg #[.int .u8 k,.int .i64 n,.string s]] w fun e w'=>e=.returned (.bool false)∧Below w.heap.size w w':=by
 have HCC:=keep HC
 clear HC
 have H1:=Lib.hid ((Ok.start w).alloc w.heap.size 35 [.int .u8 k,.int .i64 n,.string s] rfl)
 go_enter func68,ntmps68
 go_wp2_with fail
 generalize (w.alloc (.cells #[.int .u8 k,.int .i64 n,.string s] 35))=W2 at H1 ⊢
 refine cM (HCC.out _) H1 fun w3 H5=>?_
 clear H1
 have F6:=sE H5
 go_wp2_with fail
 go_ret
 exact ⟨rfl,H5.out.bel⟩
theorem Cj (n:Int) (s:ByteArray) (w:World) (HC:∀ w,Calls prog 40 #[.agg #[.int .u8 0,.int .i64 n,.string s]] w fun e w'=>e=.returned (.int .i64 0)∧Below w.heap.size w w') :
  Calls prog 68 #[.agg #[.int .u8 0,.int .i64 n,.string s]] w fun e w'=>e=.returned (.bool false)∧Below w.heap.size w w':=by
 have HCC:=keep HC
 clear HC
 have H1:=Lib.hid ((Ok.start w).alloc w.heap.size 35 [.int .u8 0,.int .i64 n,.string s] rfl)
 go_enter func68,ntmps68
 go_wp2_with fail
 generalize (w.alloc (.cells #[.int .u8 0,.int .i64 n,.string s] 35))=W2 at H1 ⊢
 refine cM (HCC.out _) H1 fun w3 H5=>?_
 clear H1
 have F6:=sE H5
 go_wp2_with fail
 go_ret
 exact ⟨rfl,H5.out.bel⟩
theorem Bm (n:Int) (s:ByteArray) (h:0≤n) (w:World) (HC:∀ w,Calls prog 40 #[.agg #[.int .u8 1,.int .i64 n,.string s]] w fun e w'=>e=.returned (.int .i64 0)∧Below w.heap.size w w') :
  Calls prog 68 #[.agg #[.int .u8 1,.int .i64 n,.string s]] w fun e w'=>e=.returned (.bool true)∧Below w.heap.size w w':=by
 have HCC:=keep HC
 clear HC
 have H1:=Lib.hid ((Ok.start w).alloc w.heap.size 35 [.int .u8 1,.int .i64 n,.string s] rfl)
 go_enter func68,ntmps68
 go_wp2_with fail
 generalize (w.alloc (.cells #[.int .u8 1,.int .i64 n,.string s] 35))=W2 at H1 ⊢
 refine cM (HCC.out _) H1 fun w3 H5=>?_
 clear H1
 have F6:=sE H5
 go_wp2_with fail
 go_ret
 exact ⟨rfl,H5.out.bel⟩
theorem Bl (n:Int) (s:ByteArray) (h:decide (0≤n)=false) (w:World) (HC:∀ w,Calls prog 40 #[.agg #[.int .u8 1,.int .i64 n,.string s]] w fun e w'=>e=.returned (.int .i64 0)∧Below w.heap.size w w') :
  Calls prog 68 #[.agg #[.int .u8 1,.int .i64 n,.string s]] w fun e w'=>e=.returned (.bool false)∧Below w.heap.size w w':=by
 have HCC:=keep HC
 clear HC
 have H1:=Lib.hid ((Ok.start w).alloc w.heap.size 35 [.int .u8 1,.int .i64 n,.string s] rfl)
 go_enter func68,ntmps68
 go_wp2_with fail
 generalize (w.alloc (.cells #[.int .u8 1,.int .i64 n,.string s] 35))=W2 at H1 ⊢
 refine cM (HCC.out _) H1 fun w3 H5=>?_
 clear H1
 have F6:=sE H5
 go_wp2_with fail
 go_ret
 exact ⟨rfl,H5.out.bel⟩
theorem Ck (n:Int) (s:ByteArray) (w:World) (HC:∀ w,Calls prog 40 #[.agg #[.int .u8 2,.int .i64 n,.string s]] w fun e w'=>e=.returned (.int .i64 0)∧Below w.heap.size w w') :
  Calls prog 68 #[.agg #[.int .u8 2,.int .i64 n,.string s]] w fun e w'=>e=.returned (.bool true)∧Below w.heap.size w w':=by
 have HCC:=keep HC
 clear HC
 have H1:=Lib.hid ((Ok.start w).alloc w.heap.size 35 [.int .u8 2,.int .i64 n,.string s] rfl)
 go_enter func68,ntmps68
 go_wp2_with fail
 generalize (w.alloc (.cells #[.int .u8 2,.int .i64 n,.string s] 35))=W2 at H1 ⊢
 refine cM (HCC.out _) H1 fun w3 H5=>?_
 clear H1
 have F6:=sE H5
 go_wp2_with fail
 go_ret
 exact ⟨rfl,H5.out.bel⟩
theorem Cl (n:Int) (s:ByteArray) (w:World) (HC:∀ w,Calls prog 40 #[.agg #[.int .u8 3,.int .i64 n,.string s]] w fun e w'=>e=.returned (.int .i64 0)∧Below w.heap.size w w') :
  Calls prog 68 #[.agg #[.int .u8 3,.int .i64 n,.string s]] w fun e w'=>e=.returned (.bool true)∧Below w.heap.size w w':=by
 have HCC:=keep HC
 clear HC
 have H1:=Lib.hid ((Ok.start w).alloc w.heap.size 35 [.int .u8 3,.int .i64 n,.string s] rfl)
 go_enter func68,ntmps68
 go_wp2_with fail
 generalize (w.alloc (.cells #[.int .u8 3,.int .i64 n,.string s] 35))=W2 at H1 ⊢
 refine cM (HCC.out _) H1 fun w3 H5=>?_
 clear H1
 have F6:=sE H5
 go_wp2_with fail
 go_ret
 exact ⟨rfl,H5.out.bel⟩
theorem Bo (n:Int) (s:ByteArray) (h2:(n != 6)=true) (w:World) (HC:∀ w,Calls prog 40 #[.agg #[.int .u8 4,.int .i64 n,.string s]] w fun e w'=>e=.returned (.int .i64 0)∧Below w.heap.size w w') :
  Calls prog 68 #[.agg #[.int .u8 4,.int .i64 n,.string s]] w fun e w'=>e=.returned (.bool true)∧Below w.heap.size w w':=by
 have HCC:=keep HC
 clear HC
 have H1:=Lib.hid ((Ok.start w).alloc w.heap.size 35 [.int .u8 4,.int .i64 n,.string s] rfl)
 go_enter func68,ntmps68
 go_wp2_with fail
 generalize (w.alloc (.cells #[.int .u8 4,.int .i64 n,.string s] 35))=W2 at H1 ⊢
 refine cM (HCC.out _) H1 fun w3 H5=>?_
 clear H1
 have F6:=sE H5
 go_wp2_with fail
 go_ret
 exact ⟨rfl,H5.out.bel⟩
theorem Bn (s:ByteArray) (w:World) (HC:∀ w,Calls prog 40 #[.agg #[.int .u8 4,.int .i64 6,.string s]] w fun e w'=>e=.returned (.int .i64 0)∧Below w.heap.size w w') :
  Calls prog 68 #[.agg #[.int .u8 4,.int .i64 6,.string s]] w fun e w'=>e=.returned (.bool false)∧Below w.heap.size w w':=by
 have HCC:=keep HC
 clear HC
 have H1:=Lib.hid ((Ok.start w).alloc w.heap.size 35 [.int .u8 4,.int .i64 6,.string s] rfl)
 go_enter func68,ntmps68
 go_wp2_with fail
 generalize (w.alloc (.cells #[.int .u8 4,.int .i64 6,.string s] 35))=W2 at H1 ⊢
 refine cM (HCC.out _) H1 fun w3 H5=>?_
 clear H1
 have F6:=sE H5
 go_wp2_with fail
 go_ret
 exact ⟨rfl,H5.out.bel⟩
open Classical in
theorem dE {k:Nat} {n:Int} {t:List UInt8} (h:dD k n t):l9 k n t=true:=decide_eq_true h
open Classical in
theorem ie {k:Nat} {n:Int} {t:List UInt8} (h:¬ dD k n t):l9 k n t=false:=decide_eq_false h
theorem cF (k:Nat) (n:Int) (s:ByteArray) (hs:s.size≤4611686018427387904) (hlo : -9223372036854775808≤n) (w:World) :
  Calls prog 68 #[.agg #[.int .u8 (k:Nat),.int .i64 n,.string s]] w fun e w'=>e=.returned (.bool (l9 k n s.data.toList))∧Below w.heap.size w w':=by
 have HV:=fun w=>gK k n s hs hlo w
 by_cases hc:cellV k n s.data.toList
 rotate_left
 ·rw [ie (fun h=>hc (dw.1 h).1)]
  rw [bg hc] at HV
  exact Ao k n s w HV
 rw [bA hc] at HV
 have hh:=hc
 rcases hh with ⟨rfl,-⟩ | ⟨rfl,-⟩ | ⟨rfl,-⟩ | ⟨rfl,-⟩ | ⟨rfl,-⟩
 ·rw [ie (fun h=>(dw.1 h).2.1 rfl)]; exact Cj n s w HV
 ·by_cases h0:0≤n
  ·rw [dE (dw.2 ⟨hc,by decide,fun _=>h0,(fun h=>absurd h (by decide))⟩)]; exact Bm n s h0 w HV
  rw [ie (fun h=>h0 ((dw.1 h).2.2.1 rfl))]; exact Bl n s (by simp; omega) w HV
 ·rw [dE (dw.2 ⟨hc,by decide,(fun h=>absurd h (by decide)),(fun h=>absurd h (by decide))⟩)]; exact Ck n s w HV
 ·rw [dE (dw.2 ⟨hc,by decide,(fun h=>absurd h (by decide)),(fun h=>absurd h (by decide))⟩)]; exact Cl n s w HV
 by_cases h6:n=6
 ·subst h6
  rw [ie (fun h=>(dw.1 h).2.2.2 rfl rfl)]; exact Bn s w HV
 rw [dE (dw.2 ⟨hc,by decide,(fun h=>absurd h (by decide)),fun _=>h6⟩)]; exact Bo n s (by rw [bne,beq_eq_false_iff_ne.2 h6]; rfl) w HV
set_option maxRecDepth 100000
set_option maxHeartbeats 4000000
theorem yA (k:Nat) (n:Int) (s:ByteArray) (hs:s.size≤4611686018427387904) (hlo : -9223372036854775808≤n) (hg:l9 k n s.data.toList=false) (w:World) :
  Calls prog 34 #[.agg #[.int .u8 (k:Nat),.int .i64 n,.string s]] w fun e w'=>e=.returned (.tuple #[.string ⟨#[]⟩,.int .i64 2])∧Below w.heap.size w w':=by
 have HS:=keep hs
 have HLO:=keep hlo
 have HG:=keep hg
 clear hs hlo hg
 have H1:=Lib.hid ((Ok.start w).alloc w.heap.size 35 [.int .u8 (k:Nat),.int .i64 n,.string s] rfl)
 go_enter func34,ntmps34
 go_wp2_with fail
 generalize (w.alloc (.cells #[.int .u8 (k:Nat),.int .i64 n,.string s] 35))=W2 at H1 ⊢
 refine cM (cF k n s HS.out HLO.out _) H1 fun w3 H5=>?_
 rw [HG.out]
 clear H1
 have F6:=sE H5
 go_wp2_with fail
 exact bodyPost_ret (v:=.tuple #[.string ⟨#[]⟩,.int .i64 2]) (by simp [results,results34,go_sem]) rfl ⟨rfl,H5.out.bel⟩
theorem yC (n:Int) (h0:0≤n) (h1:n≤9223372036854775807) (w:World) :
  Calls prog 34 #[.agg #[.int .u8 1,.int .i64 n,.string ⟨#[]⟩]] w fun e w'=>e=.returned (.tuple #[.string ⟨(eE n).toArray⟩,.int .i64 0])∧Below w.heap.size w w':=by
 have HS:=keep (show (⟨#[]⟩:ByteArray).size≤4611686018427387904 by decide)
 have HLO:=keep (show -9223372036854775808≤n by omega)
 have HHI:=keep h1
 have HG:=keep (show l9 1 n (⟨#[]⟩:ByteArray).data.toList=true from dE (.inl ⟨rfl,h0,rfl⟩))
 clear h0 h1
 have H1:=Lib.hid ((Ok.start w).alloc w.heap.size 35 [.int .u8 1,.int .i64 n,.string ⟨#[]⟩] rfl)
 go_enter func34,ntmps34
 go_wp2_with fail
 generalize (w.alloc (.cells #[.int .u8 1,.int .i64 n,.string ⟨#[]⟩] 35))=W2 at H1 ⊢
 refine cM (cF 1 n (⟨#[]⟩:ByteArray) HS.out HLO.out _) H1 fun w3 H5=>?_
 rw [HG.out]
 clear H1
 have F6:=sE H5
 go_wp2_with fail
 refine cM (oY n _ HLO.out HHI.out) H5 fun w7 H9=>?_
 clear F6 H5
 have F10:=sE H9
 go_wp2_with fail
 exact bodyPost_ret (v:=.tuple #[.string ⟨(eE n).toArray⟩,.int .i64 0]) (by simp [results,results34,go_sem]) rfl ⟨rfl,H9.out.bel⟩
theorem vo (n:Int) (hn:n=0∨n=1) (w:World) :
  Calls prog 34 #[.agg #[.int .u8 2,.int .i64 n,.string ⟨#[]⟩]] w fun e w'=>e=.returned (.tuple #[.string ⟨(jD n).toArray⟩,.int .i64 0])∧Below w.heap.size w w':=by
 have HS:=keep (show (⟨#[]⟩:ByteArray).size≤4611686018427387904 by decide)
 have HLO:=keep (show -9223372036854775808≤n by omega)
 have HN:=keep hn
 have HG:=keep (show l9 2 n (⟨#[]⟩:ByteArray).data.toList=true from dE (.inr (.inl ⟨rfl,hn,rfl⟩)))
 clear hn
 have H1:=Lib.hid ((Ok.start w).alloc w.heap.size 35 [.int .u8 2,.int .i64 n,.string ⟨#[]⟩] rfl)
 go_enter func34,ntmps34
 go_wp2_with fail
 generalize (w.alloc (.cells #[.int .u8 2,.int .i64 n,.string ⟨#[]⟩] 35))=W2 at H1 ⊢
 refine cM (cF 2 n (⟨#[]⟩:ByteArray) HS.out HLO.out _) H1 fun w3 H5=>?_
 rw [HG.out]
 clear H1
 have F6:=sE H5
 go_wp2_with fail
 refine cM (qD n HN.out _) H5 fun w7 H9=>?_
 clear F6 H5
 have F10:=sE H9
 go_wp2_with fail
 exact bodyPost_ret (v:=.tuple #[.string ⟨(jD n).toArray⟩,.int .i64 0]) (by simp [results,results34,go_sem]) rfl ⟨rfl,H9.out.bel⟩
theorem yD (s:ByteArray) (hs:s.size≤4611686018427387904) (hc:bm s.data.toList=0) (w:World) :
  Calls prog 34 #[.agg #[.int .u8 3,.int .i64 0,.string s]] w fun e w'=>e=.returned (.tuple #[.string ⟨(cW s.data.toList).toArray⟩,.int .i64 0])∧Below w.heap.size w w':=by
 have HS:=keep hs
 have HLO:=keep (show (-9223372036854775808:Int)≤0 by decide)
 have HC:=keep hc
 have HQ:=keep (show eJ s.data.toList=cW s.data.toList from if_pos hc)
 have HG:=keep (show l9 3 0 s.data.toList=true from dE (.inr (.inr (.inl ⟨rfl,rfl,(mV _).1 hc⟩))))
 clear hs hc
 have H1:=Lib.hid ((Ok.start w).alloc w.heap.size 35 [.int .u8 3,.int .i64 0,.string s] rfl)
 go_enter func34,ntmps34
 go_wp2_with fail
 generalize (w.alloc (.cells #[.int .u8 3,.int .i64 0,.string s] 35))=W2 at H1 ⊢
 refine cM (cF 3 0 s HS.out HLO.out _) H1 fun w3 H5=>?_
 rw [HG.out]
 clear H1
 have F6:=sE H5
 go_wp2_with fail
 refine (qC s _ HS.out).mono ?_
 rintro e w7 ⟨rfl,hb8⟩
 rw [HC.out,HQ.out]
 have H9:=Lib.hid (H5.out.below hb8)
 clear F6
 clear hb8 H5
 go_wp2_with fail
 exact bodyPost_ret (v:=.tuple #[.string ⟨(cW s.data.toList).toArray⟩,.int .i64 0]) (by simp [results,results34,go_sem]) rfl ⟨rfl,H9.out.bel⟩
theorem yB (n:Int) (h1:1≤n) (h5:n≤5) (w:World) :
  Calls prog 34 #[.agg #[.int .u8 4,.int .i64 n,.string ⟨#[]⟩]] w fun e w'=>e=.returned (.tuple #[.string ⟨(pS n).toArray⟩,.int .i64 0])∧Below w.heap.size w w':=by
 have HS:=keep (show (⟨#[]⟩:ByteArray).size≤4611686018427387904 by decide)
 have HLO:=keep (show -9223372036854775808≤n by omega)
 have HG:=keep (show l9 4 n (⟨#[]⟩:ByteArray).data.toList=true from dE (.inr (.inr (.inr ⟨rfl,⟨h1,h5⟩,rfl⟩))))
 clear h1 h5
 have H1:=Lib.hid ((Ok.start w).alloc w.heap.size 35 [.int .u8 4,.int .i64 n,.string ⟨#[]⟩] rfl)
 go_enter func34,ntmps34
 go_wp2_with fail
 generalize (w.alloc (.cells #[.int .u8 4,.int .i64 n,.string ⟨#[]⟩] 35))=W2 at H1 ⊢
 refine cM (cF 4 n (⟨#[]⟩:ByteArray) HS.out HLO.out _) H1 fun w3 H5=>?_
 rw [HG.out]
 clear H1
 have F6:=sE H5
 go_wp2_with fail
 refine cM (tj n _) H5 fun w7 H9=>?_
 clear F6 H5
 have F10:=sE H9
 go_wp2_with fail
 exact bodyPost_ret (v:=.tuple #[.string ⟨(pS n).toArray⟩,.int .i64 0]) (by simp [results,results34,go_sem]) rfl ⟨rfl,H9.out.bel⟩
theorem yP (n:Int):tkT (tkV ⟨1,1,n,[],R4.zero,0,0,0⟩)=eE n:=rfl
theorem vR (n:Int):tkT (tkV ⟨1,2,n,[],R4.zero,0,0,0⟩)=jD n:=rfl
theorem yQ (t:List UInt8):tkT (tkV ⟨1,3,0,t,R4.zero,0,0,0⟩)=cW t:=rfl
theorem yO (n:Int) (h1:1≤n) (h5:n≤5):tkT (tkV ⟨1,4,n,[],R4.zero,0,0,0⟩)=pS n:=by
 rcases (show n=1∨n=2∨n=3∨n=4∨n=5 by omega) with rfl | rfl | rfl | rfl | rfl <;> rfl
theorem qS {s:ByteArray} (h:s.data.toList=[]):s=⟨#[]⟩:=by
 rcases eA s with h1 | ⟨-,h1⟩
 ·exact h1
 exact absurd h h1
theorem me (k:Nat) (n:Int) (s:ByteArray) (hs:s.size≤4611686018427387904) (hlo : -9223372036854775808≤n) (hhi:n≤9223372036854775807) (w:World) :
  Calls prog 34 #[.agg #[.int .u8 (k:Nat),.int .i64 n,.string s]] w fun e w'=>e=.returned (.tuple #[.string ⟨(iO k n s.data.toList).1.toArray⟩,.int .i64 (iO k n s.data.toList).2])∧Below w.heap.size w w':=by
 by_cases hg:dD k n s.data.toList
 ·rw [je hg]
  rcases hg with ⟨rfl,h0,ht⟩ | ⟨rfl,h0,ht⟩ | ⟨rfl,rfl,h1,hp⟩ | ⟨rfl,⟨h1,h5⟩,ht⟩
  ·rw [ht,qS ht,yP]; exact yC n h0 hhi w
  ·rw [ht,qS ht,vR]; exact vo n h0 w
  ·rw [yQ]; exact yD s hs ((mV _).2 ⟨h1,hp⟩) w
  rw [ht,qS ht,yO n h1 h5]; exact yB n h1 h5 w
 rw [qo hg]
 exact yA k n s hs hlo (ie hg) w
