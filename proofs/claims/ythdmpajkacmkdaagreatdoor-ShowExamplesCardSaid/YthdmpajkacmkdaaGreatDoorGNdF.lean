/- tree.fields at any node. -/
import Derived.Test.YthdmpajkacmkdaaGreatDoorGEqV
import Derived.Test.YthdmpajkacmkdaaGreatDoorGTg
import Derived.Test.YthdmpajkacmkdaaGreatDoorGSgn
namespace Go.Proofs.YthdmpajkacmkdaaGreatDoor
set_option maxRecDepth 100000
set_option maxHeartbeats 4000000
open Go.RowKit Go.Proofs.Tryz
attribute [local go_sem high] qj nH
theorem aS (k vk vn a1 a2 a3 a4 op fn n k' vk' vn' a1' a2' a3' a4' op' fn' n':Int) (s s':List UInt8):bl k vk vn a1 a2 a3 a4 op fn n k' vk' vn' a1' a2' a3' a4' op' fn' n' s s'=true↔k=k'∧vk=vk'∧vn=vn'∧s=s'∧a1=a1'∧a2=a2'∧a3=a3'∧a4=a4'∧op=op'∧fn=fn'∧n=n':=by
 unfold bl
 simp only [Bool.and_eq_true,decide_eq_true_eq]
theorem gN (vk:Nat) (vn:Int) (vt:List UInt8):dF vk vn vt↔cellV vk vn vt∧vk≠0∧(vk=1→0≤vn)∧(vk=4→vn≤5):=by
 have ct:bm vt=0↔vt.length≤256∧vt.all aB=true:=by
  unfold bm
  constructor
  ·intro h
   split at h
   ·exact absurd h (by decide)
   split at h
   next hp=>exact ⟨by omega,hp⟩
   ·exact absurd h (by decide)
  rintro ⟨h1,h2⟩
  rw [if_neg (by omega),if_pos h2]
 constructor
 ·rintro (⟨rfl,h1,rfl⟩ | ⟨rfl,h1,rfl⟩ | ⟨rfl,rfl,h1,h2⟩ | ⟨rfl,⟨h1,h2⟩,rfl⟩)
  ·exact ⟨.inr (.inl ⟨rfl,rfl,by omega⟩),by decide,fun _=>h1,fun h=>absurd h (by decide)⟩
  ·exact ⟨.inr (.inr (.inl ⟨rfl,rfl,h1⟩)),by decide,fun h=>absurd h (by decide),fun h=>absurd h (by decide)⟩
  ·exact ⟨.inr (.inr (.inr (.inl ⟨rfl,rfl,ct.2 ⟨h1,h2⟩⟩))),by decide,fun h=>absurd h (by decide),fun h=>absurd h (by decide)⟩
  exact ⟨.inr (.inr (.inr (.inr ⟨rfl,rfl,h1,by omega⟩))),by decide,fun h=>absurd h (by decide),fun _=>h2⟩
 rintro ⟨h,h0,h1,h4⟩
 rcases h with ⟨rfl,-⟩ | ⟨rfl,rfl,h⟩ | ⟨rfl,rfl,h⟩ | ⟨rfl,rfl,h⟩ | ⟨rfl,rfl,h,-⟩
 ·exact absurd rfl h0
 ·exact .inl ⟨rfl,h1 rfl,rfl⟩
 ·exact .inr (.inl ⟨rfl,h,rfl⟩)
 ·exact .inr (.inr (.inl ⟨rfl,rfl,ct.1 h⟩))
 exact .inr (.inr (.inr ⟨rfl,⟨h,h4 rfl⟩,rfl⟩))
theorem mG (fn:Nat) (w:World) (h:fn=0∨50<fn) :
  Calls prog 150 #[.int .u8 (fn:Nat)] w fun e w'=>e=.returned (.tuple #[.int .i64 0,.int .i64 0,.int .i64 10])∧w'=w:=by
 have key:∀ j:Nat,1≤j→j≤50→((fn:Int) == (j:Int))=false:=by intro j h1 h2; simp; omega
 have e5:=key 5 (by decide) (by decide)
 have e6:=key 6 (by decide) (by decide)
 have e7:=key 7 (by decide) (by decide)
 have e9:=key 9 (by decide) (by decide)
 have e10:=key 10 (by decide) (by decide)
 have e11:=key 11 (by decide) (by decide)
 have e12:=key 12 (by decide) (by decide)
 have e14:=key 14 (by decide) (by decide)
 have e15:=key 15 (by decide) (by decide)
 have e16:=key 16 (by decide) (by decide)
 have e17:=key 17 (by decide) (by decide)
 have e18:=key 18 (by decide) (by decide)
 have e19:=key 19 (by decide) (by decide)
 have e20:=key 20 (by decide) (by decide)
 have e21:=key 21 (by decide) (by decide)
 have e22:=key 22 (by decide) (by decide)
 have e23:=key 23 (by decide) (by decide)
 have e25:=key 25 (by decide) (by decide)
 have e30:=key 30 (by decide) (by decide)
 have e32:=key 32 (by decide) (by decide)
 have e33:=key 33 (by decide) (by decide)
 have e34:=key 34 (by decide) (by decide)
 have e38:=key 38 (by decide) (by decide)
 have e39:=key 39 (by decide) (by decide)
 have e40:=key 40 (by decide) (by decide)
 have e41:=key 41 (by decide) (by decide)
 have e43:=key 43 (by decide) (by decide)
 have e44:=key 44 (by decide) (by decide)
 have e45:=key 45 (by decide) (by decide)
 clear key
 have HH:=keep h
 clear h
 have hkn:∀ w2:World,Calls prog 122 #[.int .u8 (fn:Nat)] w2 fun e w'=>e=.returned (.bool false)∧w'=w2:=by
  clear e5 e6 e7 e9 e10 e11 e12 e14 e15 e16 e17 e18 e19 e20 e21 e22 e23 e25 e30 e32 e33 e34 e38 e39 e40 e41 e43 e44 e45
  intro w2
  rcases HH.out with h | h
  ·subst h
   clear HH
   go_enter func122,ntmps122
   go_wp2_with fail
   go_ret
   exact ⟨rfl,rfl⟩
  have g1:(1:Int)≤fn:=by omega
  have g2:¬ (fn:Int)≤50:=by omega
  clear HH h
  go_enter func122,ntmps122
  go_wp2_with fail
  go_ret
  exact ⟨rfl,rfl⟩
 have HK:=keep hkn
 clear hkn HH
 go_enter func150,ntmps150
 go_wp2_with fail
 refine (HK.out _).mono ?_
 rintro e w' ⟨rfl,hw⟩
 obtain rfl:w=w':=hw.symm
 go_wp2_with fail
 exact bodyPost_ret (v:=.tuple #[.int .i64 0,.int .i64 0,.int .i64 10]) (by simp [results,results150,go_sem]) rfl ⟨rfl,rfl⟩
theorem BF (vn r1 r2 r3 r4 op:Int) (fn:Nat) (nn:Int) (s:ByteArray) (V:Int) (hV:V=2) (w:World) :
  Calls prog 116 #[.agg #[.int .u8 1,.int .u8 0,.int .i64 vn,.string s,.int .i64 r1,.int .i64 r2,.int .i64 r3,.int .i64 r4,.int .i64 op,.int .u8 (fn:Nat),.int .i64 nn]] w fun e w'=>e=.returned (.int .i64 V)∧Below w.heap.size w w':=by
 subst hV
 have H1:=Lib.hid (((Ok.start w).alloc w.heap.size 27 [.int .u8 1,.int .u8 0,.int .i64 vn,.string s,.int .i64 r1,.int .i64 r2,.int .i64 r3,.int .i64 r4,.int .i64 op,.int .u8 (fn:Nat),.int .i64 nn] rfl).alloc (w.heap.size+1) 27 [.int .u8 1,.int .u8 0,.int .i64 vn,.string s,.int .i64 0,.int .i64 0,.int .i64 0,.int .i64 0,.int .i64 0,.int .u8 0,.int .i64 0] (by simp))
 go_enter func116,ntmps116
 go_wp2_with fail
 generalize ((w.alloc (.cells #[.int .u8 1,.int .u8 0,.int .i64 vn,.string s,.int .i64 r1,.int .i64 r2,.int .i64 r3,.int .i64 r4,.int .i64 op,.int .u8 (fn:Nat),.int .i64 nn] 27)).alloc (.cells #[.int .u8 1,.int .u8 0,.int .i64 vn,.string s,.int .i64 0,.int .i64 0,.int .i64 0,.int .i64 0,.int .i64 0,.int .u8 0,.int .i64 0] 27))=W2 at H1 ⊢
 all_goals go_ret
 all_goals exact ⟨rfl,H1.out.bel⟩
theorem BG (vn r1 r2 r3 r4 op:Int) (fn:Nat) (nn:Int) (s:ByteArray) (V:Int) (hV:V=2) (hn:¬ 0≤vn) (w:World) :
  Calls prog 116 #[.agg #[.int .u8 1,.int .u8 1,.int .i64 vn,.string s,.int .i64 r1,.int .i64 r2,.int .i64 r3,.int .i64 r4,.int .i64 op,.int .u8 (fn:Nat),.int .i64 nn]] w fun e w'=>e=.returned (.int .i64 V)∧Below w.heap.size w w':=by
 subst hV
 have H1:=Lib.hid (((Ok.start w).alloc w.heap.size 27 [.int .u8 1,.int .u8 1,.int .i64 vn,.string s,.int .i64 r1,.int .i64 r2,.int .i64 r3,.int .i64 r4,.int .i64 op,.int .u8 (fn:Nat),.int .i64 nn] rfl).alloc (w.heap.size+1) 27 [.int .u8 1,.int .u8 1,.int .i64 vn,.string s,.int .i64 0,.int .i64 0,.int .i64 0,.int .i64 0,.int .i64 0,.int .u8 0,.int .i64 0] (by simp))
 go_enter func116,ntmps116
 go_wp2_with fail
 generalize ((w.alloc (.cells #[.int .u8 1,.int .u8 1,.int .i64 vn,.string s,.int .i64 r1,.int .i64 r2,.int .i64 r3,.int .i64 r4,.int .i64 op,.int .u8 (fn:Nat),.int .i64 nn] 27)).alloc (.cells #[.int .u8 1,.int .u8 1,.int .i64 vn,.string s,.int .i64 0,.int .i64 0,.int .i64 0,.int .i64 0,.int .i64 0,.int .u8 0,.int .i64 0] 27))=W2 at H1 ⊢
 all_goals go_ret
 all_goals exact ⟨rfl,H1.out.bel⟩
theorem Am (vn r1 r2 r3 r4 op:Int) (fn:Nat) (nn:Int) (s:ByteArray) (V:Int) (hV:V=2) (hn:¬ 1≤vn) (w:World) :
  Calls prog 116 #[.agg #[.int .u8 1,.int .u8 4,.int .i64 vn,.string s,.int .i64 r1,.int .i64 r2,.int .i64 r3,.int .i64 r4,.int .i64 op,.int .u8 (fn:Nat),.int .i64 nn]] w fun e w'=>e=.returned (.int .i64 V)∧Below w.heap.size w w':=by
 subst hV
 have H1:=Lib.hid (((Ok.start w).alloc w.heap.size 27 [.int .u8 1,.int .u8 4,.int .i64 vn,.string s,.int .i64 r1,.int .i64 r2,.int .i64 r3,.int .i64 r4,.int .i64 op,.int .u8 (fn:Nat),.int .i64 nn] rfl).alloc (w.heap.size+1) 27 [.int .u8 1,.int .u8 4,.int .i64 vn,.string s,.int .i64 0,.int .i64 0,.int .i64 0,.int .i64 0,.int .i64 0,.int .u8 0,.int .i64 0] (by simp))
 go_enter func116,ntmps116
 go_wp2_with fail
 generalize ((w.alloc (.cells #[.int .u8 1,.int .u8 4,.int .i64 vn,.string s,.int .i64 r1,.int .i64 r2,.int .i64 r3,.int .i64 r4,.int .i64 op,.int .u8 (fn:Nat),.int .i64 nn] 27)).alloc (.cells #[.int .u8 1,.int .u8 4,.int .i64 vn,.string s,.int .i64 0,.int .i64 0,.int .i64 0,.int .i64 0,.int .i64 0,.int .u8 0,.int .i64 0] 27))=W2 at H1 ⊢
 all_goals go_ret
 all_goals exact ⟨rfl,H1.out.bel⟩
theorem Al (vn r1 r2 r3 r4 op:Int) (fn:Nat) (nn:Int) (s:ByteArray) (V:Int) (hV:V=2) (hn:1≤vn) (h5:¬ vn≤5) (w:World) :
  Calls prog 116 #[.agg #[.int .u8 1,.int .u8 4,.int .i64 vn,.string s,.int .i64 r1,.int .i64 r2,.int .i64 r3,.int .i64 r4,.int .i64 op,.int .u8 (fn:Nat),.int .i64 nn]] w fun e w'=>e=.returned (.int .i64 V)∧Below w.heap.size w w':=by
 subst hV
 have H1:=Lib.hid (((Ok.start w).alloc w.heap.size 27 [.int .u8 1,.int .u8 4,.int .i64 vn,.string s,.int .i64 r1,.int .i64 r2,.int .i64 r3,.int .i64 r4,.int .i64 op,.int .u8 (fn:Nat),.int .i64 nn] rfl).alloc (w.heap.size+1) 27 [.int .u8 1,.int .u8 4,.int .i64 vn,.string s,.int .i64 0,.int .i64 0,.int .i64 0,.int .i64 0,.int .i64 0,.int .u8 0,.int .i64 0] (by simp))
 go_enter func116,ntmps116
 go_wp2_with fail
 generalize ((w.alloc (.cells #[.int .u8 1,.int .u8 4,.int .i64 vn,.string s,.int .i64 r1,.int .i64 r2,.int .i64 r3,.int .i64 r4,.int .i64 op,.int .u8 (fn:Nat),.int .i64 nn] 27)).alloc (.cells #[.int .u8 1,.int .u8 4,.int .i64 vn,.string s,.int .i64 0,.int .i64 0,.int .i64 0,.int .i64 0,.int .i64 0,.int .u8 0,.int .i64 0] 27))=W2 at H1 ⊢
 all_goals go_ret
 all_goals exact ⟨rfl,H1.out.bel⟩
theorem xp (vn r1 r2 r3 r4 op:Int) (fn:Nat) (nn:Int) (s:ByteArray) (V c:Int) (hc:fS 1 vn s.data.toList=c) (hs:s.size≤4611686018427387904) (hV:(c=2∧V=2)∨(c=0∧bl 1 1 vn r1 r2 r3 r4 op (fn:Nat) nn 1 1 vn 0 0 0 0 0 0 0 s.toList s.toList=true∧V=0)∨(c=0∧bl 1 1 vn r1 r2 r3 r4 op (fn:Nat) nn 1 1 vn 0 0 0 0 0 0 0 s.toList s.toList=false∧V=2)) (hn:0≤vn) (w:World) :
  Calls prog 116 #[.agg #[.int .u8 1,.int .u8 1,.int .i64 vn,.string s,.int .i64 r1,.int .i64 r2,.int .i64 r3,.int .i64 r4,.int .i64 op,.int .u8 (fn:Nat),.int .i64 nn]] w fun e w'=>e=.returned (.int .i64 V)∧Below w.heap.size w w':=by
 have HS:=Lib.hid hs
 have HC:=keep hc
 have HV:=keep hV
 clear hs hc hV
 have H1:=Lib.hid (((Ok.start w).alloc w.heap.size 27 [.int .u8 1,.int .u8 1,.int .i64 vn,.string s,.int .i64 r1,.int .i64 r2,.int .i64 r3,.int .i64 r4,.int .i64 op,.int .u8 (fn:Nat),.int .i64 nn] rfl).alloc (w.heap.size+1) 27 [.int .u8 1,.int .u8 1,.int .i64 vn,.string s,.int .i64 0,.int .i64 0,.int .i64 0,.int .i64 0,.int .i64 0,.int .u8 0,.int .i64 0] (by simp))
 go_enter func116,ntmps116
 go_wp2_with fail
 generalize ((w.alloc (.cells #[.int .u8 1,.int .u8 1,.int .i64 vn,.string s,.int .i64 r1,.int .i64 r2,.int .i64 r3,.int .i64 r4,.int .i64 op,.int .u8 (fn:Nat),.int .i64 nn] 27)).alloc (.cells #[.int .u8 1,.int .u8 1,.int .i64 vn,.string s,.int .i64 0,.int .i64 0,.int .i64 0,.int .i64 0,.int .i64 0,.int .u8 0,.int .i64 0] 27))=W2 at H1 ⊢
 refine cM (fT 1 vn s HS.out _) H1 fun w3 H5=>?_
 rw [HC.out]
 clear H1
 have F6:=sE H5
 rcases HV.out with ⟨rfl,rfl⟩ | ⟨rfl,hb,rfl⟩ | ⟨rfl,hb,rfl⟩
 ·clear HC HV
  go_wp2_with fail
  all_goals go_ret
  all_goals exact ⟨rfl,H5.out.bel⟩
 ·clear HC HV
  go_wp2_with fail
  all_goals go_ret
  all_goals exact ⟨rfl,H5.out.bel⟩
 clear HC HV
 go_wp2_with fail
 all_goals go_ret
 all_goals exact ⟨rfl,H5.out.bel⟩
theorem xm (vn r1 r2 r3 r4 op:Int) (fn:Nat) (nn:Int) (s:ByteArray) (V c:Int) (hc:fS 4 vn s.data.toList=c) (hs:s.size≤4611686018427387904) (hV:(c=2∧V=2)∨(c=0∧bl 1 4 vn r1 r2 r3 r4 op (fn:Nat) nn 1 4 vn 0 0 0 0 0 0 0 s.toList s.toList=true∧V=0)∨(c=0∧bl 1 4 vn r1 r2 r3 r4 op (fn:Nat) nn 1 4 vn 0 0 0 0 0 0 0 s.toList s.toList=false∧V=2)) (hn:1≤vn) (h5:vn≤5) (w:World) :
  Calls prog 116 #[.agg #[.int .u8 1,.int .u8 4,.int .i64 vn,.string s,.int .i64 r1,.int .i64 r2,.int .i64 r3,.int .i64 r4,.int .i64 op,.int .u8 (fn:Nat),.int .i64 nn]] w fun e w'=>e=.returned (.int .i64 V)∧Below w.heap.size w w':=by
 have HS:=Lib.hid hs
 have HC:=keep hc
 have HV:=keep hV
 clear hs hc hV
 have H1:=Lib.hid (((Ok.start w).alloc w.heap.size 27 [.int .u8 1,.int .u8 4,.int .i64 vn,.string s,.int .i64 r1,.int .i64 r2,.int .i64 r3,.int .i64 r4,.int .i64 op,.int .u8 (fn:Nat),.int .i64 nn] rfl).alloc (w.heap.size+1) 27 [.int .u8 1,.int .u8 4,.int .i64 vn,.string s,.int .i64 0,.int .i64 0,.int .i64 0,.int .i64 0,.int .i64 0,.int .u8 0,.int .i64 0] (by simp))
 go_enter func116,ntmps116
 go_wp2_with fail
 generalize ((w.alloc (.cells #[.int .u8 1,.int .u8 4,.int .i64 vn,.string s,.int .i64 r1,.int .i64 r2,.int .i64 r3,.int .i64 r4,.int .i64 op,.int .u8 (fn:Nat),.int .i64 nn] 27)).alloc (.cells #[.int .u8 1,.int .u8 4,.int .i64 vn,.string s,.int .i64 0,.int .i64 0,.int .i64 0,.int .i64 0,.int .i64 0,.int .u8 0,.int .i64 0] 27))=W2 at H1 ⊢
 refine cM (fT 4 vn s HS.out _) H1 fun w3 H5=>?_
 rw [HC.out]
 clear H1
 have F6:=sE H5
 rcases HV.out with ⟨rfl,rfl⟩ | ⟨rfl,hb,rfl⟩ | ⟨rfl,hb,rfl⟩
 ·clear HC HV
  go_wp2_with fail
  all_goals go_ret
  all_goals exact ⟨rfl,H5.out.bel⟩
 ·clear HC HV
  go_wp2_with fail
  all_goals go_ret
  all_goals exact ⟨rfl,H5.out.bel⟩
 clear HC HV
 go_wp2_with fail
 all_goals go_ret
 all_goals exact ⟨rfl,H5.out.bel⟩
theorem xl (vk:Nat) (vn r1 r2 r3 r4 op:Int) (fn:Nat) (nn:Int) (s:ByteArray) (V c:Int) (hc:fS vk vn s.data.toList=c) (hs:s.size≤4611686018427387904) (hV:(c=2∧V=2)∨(c=0∧bl 1 (vk:Nat) vn r1 r2 r3 r4 op (fn:Nat) nn 1 (vk:Nat) vn 0 0 0 0 0 0 0 s.toList s.toList=true∧V=0)∨(c=0∧bl 1 (vk:Nat) vn r1 r2 r3 r4 op (fn:Nat) nn 1 (vk:Nat) vn 0 0 0 0 0 0 0 s.toList s.toList=false∧V=2)) (h0:((vk:Int) == 0)=false) (h1:((vk:Int) == 1)=false) (h4:((vk:Int) == 4)=false) (w:World) :
  Calls prog 116 #[.agg #[.int .u8 1,.int .u8 (vk:Nat),.int .i64 vn,.string s,.int .i64 r1,.int .i64 r2,.int .i64 r3,.int .i64 r4,.int .i64 op,.int .u8 (fn:Nat),.int .i64 nn]] w fun e w'=>e=.returned (.int .i64 V)∧Below w.heap.size w w':=by
 have HS:=Lib.hid hs
 have HC:=keep hc
 have HV:=keep hV
 clear hs hc hV
 have H1:=Lib.hid (((Ok.start w).alloc w.heap.size 27 [.int .u8 1,.int .u8 (vk:Nat),.int .i64 vn,.string s,.int .i64 r1,.int .i64 r2,.int .i64 r3,.int .i64 r4,.int .i64 op,.int .u8 (fn:Nat),.int .i64 nn] rfl).alloc (w.heap.size+1) 27 [.int .u8 1,.int .u8 (vk:Nat),.int .i64 vn,.string s,.int .i64 0,.int .i64 0,.int .i64 0,.int .i64 0,.int .i64 0,.int .u8 0,.int .i64 0] (by simp))
 go_enter func116,ntmps116
 go_wp2_with fail
 generalize ((w.alloc (.cells #[.int .u8 1,.int .u8 (vk:Nat),.int .i64 vn,.string s,.int .i64 r1,.int .i64 r2,.int .i64 r3,.int .i64 r4,.int .i64 op,.int .u8 (fn:Nat),.int .i64 nn] 27)).alloc (.cells #[.int .u8 1,.int .u8 (vk:Nat),.int .i64 vn,.string s,.int .i64 0,.int .i64 0,.int .i64 0,.int .i64 0,.int .i64 0,.int .u8 0,.int .i64 0] 27))=W2 at H1 ⊢
 refine cM (fT vk vn s HS.out _) H1 fun w3 H5=>?_
 rw [HC.out]
 clear H1
 have F6:=sE H5
 rcases HV.out with ⟨rfl,rfl⟩ | ⟨rfl,hb,rfl⟩ | ⟨rfl,hb,rfl⟩
 ·clear HC HV
  go_wp2_with fail
  all_goals go_ret
  all_goals exact ⟨rfl,H5.out.bel⟩
 ·clear HC HV
  go_wp2_with fail
  all_goals go_ret
  all_goals exact ⟨rfl,H5.out.bel⟩
 clear HC HV
 go_wp2_with fail
 all_goals go_ret
 all_goals exact ⟨rfl,H5.out.bel⟩
theorem xt (vk:Nat) (vn r1 r2 op:Int) (fn:Nat) (nn:Int) (s:ByteArray) (V c:Int) (hc:bi ⟨r1,r2,r1,r2⟩=c) (hV:((c == 0)=false∧V=2)∨(c=0∧bl 2 (vk:Nat) vn r1 r2 r1 r2 op (fn:Nat) nn 2 0 0 r1 r2 r1 r2 0 0 0 s.toList []=true∧V=0)∨(c=0∧bl 2 (vk:Nat) vn r1 r2 r1 r2 op (fn:Nat) nn 2 0 0 r1 r2 r1 r2 0 0 0 s.toList []=false∧V=2))  (w:World) :
  Calls prog 116 #[.agg #[.int .u8 2,.int .u8 (vk:Nat),.int .i64 vn,.string s,.int .i64 r1,.int .i64 r2,.int .i64 r1,.int .i64 r2,.int .i64 op,.int .u8 (fn:Nat),.int .i64 nn]] w fun e w'=>e=.returned (.int .i64 V)∧Below w.heap.size w w':=by
 have HC:=keep hc
 have HV:=keep hV
 clear hc hV
 have H1:=Lib.hid (((Ok.start w).alloc w.heap.size 27 [.int .u8 2,.int .u8 (vk:Nat),.int .i64 vn,.string s,.int .i64 r1,.int .i64 r2,.int .i64 r1,.int .i64 r2,.int .i64 op,.int .u8 (fn:Nat),.int .i64 nn] rfl).alloc (w.heap.size+1) 27 [.int .u8 2,.int .u8 0,.int .i64 0,.string ⟨#[]⟩,.int .i64 r1,.int .i64 r2,.int .i64 r1,.int .i64 r2,.int .i64 0,.int .u8 0,.int .i64 0] (by simp))
 go_enter func116,ntmps116
 go_wp2_with fail
 generalize ((w.alloc (.cells #[.int .u8 2,.int .u8 (vk:Nat),.int .i64 vn,.string s,.int .i64 r1,.int .i64 r2,.int .i64 r1,.int .i64 r2,.int .i64 op,.int .u8 (fn:Nat),.int .i64 nn] 27)).alloc (.cells #[.int .u8 2,.int .u8 0,.int .i64 0,.string ⟨#[]⟩,.int .i64 r1,.int .i64 r2,.int .i64 r1,.int .i64 r2,.int .i64 0,.int .u8 0,.int .i64 0] 27))=W2 at H1 ⊢
 refine cM (ce r1 r2 r1 r2 _) H1 fun w3 H5=>?_
 rw [HC.out]
 clear H1
 have F6:=sE H5
 rcases HV.out with ⟨hc0,rfl⟩ | ⟨rfl,hb,rfl⟩ | ⟨rfl,hb,rfl⟩
 ·clear HC HV
  go_wp2_with fail
  all_goals go_ret
  all_goals exact ⟨rfl,H5.out.bel⟩
 ·clear HC HV
  go_wp2_with fail
  all_goals go_ret
  all_goals exact ⟨rfl,H5.out.bel⟩
 clear HC HV
 go_wp2_with fail
 all_goals go_ret
 all_goals exact ⟨rfl,H5.out.bel⟩
theorem xq (vk:Nat) (vn r1 r2 r3 r4 op:Int) (fn:Nat) (nn:Int) (s:ByteArray) (V c:Int) (hc:bi ⟨r1,r2,r3,r4⟩=c) (hV:((c == 0)=false∧V=2)∨(c=0∧V=2)) (h13:(r1 == r3)=false) (w:World) :
  Calls prog 116 #[.agg #[.int .u8 2,.int .u8 (vk:Nat),.int .i64 vn,.string s,.int .i64 r1,.int .i64 r2,.int .i64 r3,.int .i64 r4,.int .i64 op,.int .u8 (fn:Nat),.int .i64 nn]] w fun e w'=>e=.returned (.int .i64 V)∧Below w.heap.size w w':=by
 have HC:=keep hc
 have HV:=keep hV
 clear hc hV
 have H1:=Lib.hid (((Ok.start w).alloc w.heap.size 27 [.int .u8 2,.int .u8 (vk:Nat),.int .i64 vn,.string s,.int .i64 r1,.int .i64 r2,.int .i64 r3,.int .i64 r4,.int .i64 op,.int .u8 (fn:Nat),.int .i64 nn] rfl).alloc (w.heap.size+1) 27 [.int .u8 2,.int .u8 0,.int .i64 0,.string ⟨#[]⟩,.int .i64 r1,.int .i64 r2,.int .i64 r3,.int .i64 r4,.int .i64 0,.int .u8 0,.int .i64 0] (by simp))
 go_enter func116,ntmps116
 go_wp2_with fail
 generalize ((w.alloc (.cells #[.int .u8 2,.int .u8 (vk:Nat),.int .i64 vn,.string s,.int .i64 r1,.int .i64 r2,.int .i64 r3,.int .i64 r4,.int .i64 op,.int .u8 (fn:Nat),.int .i64 nn] 27)).alloc (.cells #[.int .u8 2,.int .u8 0,.int .i64 0,.string ⟨#[]⟩,.int .i64 r1,.int .i64 r2,.int .i64 r3,.int .i64 r4,.int .i64 0,.int .u8 0,.int .i64 0] 27))=W2 at H1 ⊢
 refine cM (ce r1 r2 r3 r4 _) H1 fun w3 H5=>?_
 rw [HC.out]
 clear H1
 have F6:=sE H5
 rcases HV.out with ⟨hc0,rfl⟩ | ⟨rfl,rfl⟩
 ·clear HC HV
  go_wp2_with fail
  all_goals go_ret
  all_goals exact ⟨rfl,H5.out.bel⟩
 clear HC HV
 go_wp2_with fail
 all_goals go_ret
 all_goals exact ⟨rfl,H5.out.bel⟩
theorem xr (vk:Nat) (vn r1 r2 r4 op:Int) (fn:Nat) (nn:Int) (s:ByteArray) (V c:Int) (hc:bi ⟨r1,r2,r1,r4⟩=c) (hV:((c == 0)=false∧V=2)∨(c=0∧V=2)) (h24:(r2 == r4)=false) (w:World) :
  Calls prog 116 #[.agg #[.int .u8 2,.int .u8 (vk:Nat),.int .i64 vn,.string s,.int .i64 r1,.int .i64 r2,.int .i64 r1,.int .i64 r4,.int .i64 op,.int .u8 (fn:Nat),.int .i64 nn]] w fun e w'=>e=.returned (.int .i64 V)∧Below w.heap.size w w':=by
 have HC:=keep hc
 have HV:=keep hV
 clear hc hV
 have H1:=Lib.hid (((Ok.start w).alloc w.heap.size 27 [.int .u8 2,.int .u8 (vk:Nat),.int .i64 vn,.string s,.int .i64 r1,.int .i64 r2,.int .i64 r1,.int .i64 r4,.int .i64 op,.int .u8 (fn:Nat),.int .i64 nn] rfl).alloc (w.heap.size+1) 27 [.int .u8 2,.int .u8 0,.int .i64 0,.string ⟨#[]⟩,.int .i64 r1,.int .i64 r2,.int .i64 r1,.int .i64 r4,.int .i64 0,.int .u8 0,.int .i64 0] (by simp))
 go_enter func116,ntmps116
 go_wp2_with fail
 generalize ((w.alloc (.cells #[.int .u8 2,.int .u8 (vk:Nat),.int .i64 vn,.string s,.int .i64 r1,.int .i64 r2,.int .i64 r1,.int .i64 r4,.int .i64 op,.int .u8 (fn:Nat),.int .i64 nn] 27)).alloc (.cells #[.int .u8 2,.int .u8 0,.int .i64 0,.string ⟨#[]⟩,.int .i64 r1,.int .i64 r2,.int .i64 r1,.int .i64 r4,.int .i64 0,.int .u8 0,.int .i64 0] 27))=W2 at H1 ⊢
 refine cM (ce r1 r2 r1 r4 _) H1 fun w3 H5=>?_
 rw [HC.out]
 clear H1
 have F6:=sE H5
 rcases HV.out with ⟨hc0,rfl⟩ | ⟨rfl,rfl⟩
 ·clear HC HV
  go_wp2_with fail
  all_goals go_ret
  all_goals exact ⟨rfl,H5.out.bel⟩
 clear HC HV
 go_wp2_with fail
 all_goals go_ret
 all_goals exact ⟨rfl,H5.out.bel⟩
theorem xw (vk:Nat) (vn r1 r2 op:Int) (fn:Nat) (nn:Int) (s:ByteArray) (V c:Int) (hc:bi ⟨r1,r2,r1,r2⟩=c) (hV:((c == 0)=false∧V=2)∨(c=0∧V=2))  (w:World) :
  Calls prog 116 #[.agg #[.int .u8 3,.int .u8 (vk:Nat),.int .i64 vn,.string s,.int .i64 r1,.int .i64 r2,.int .i64 r1,.int .i64 r2,.int .i64 op,.int .u8 (fn:Nat),.int .i64 nn]] w fun e w'=>e=.returned (.int .i64 V)∧Below w.heap.size w w':=by
 have HC:=keep hc
 have HV:=keep hV
 clear hc hV
 have H1:=Lib.hid (((Ok.start w).alloc w.heap.size 27 [.int .u8 3,.int .u8 (vk:Nat),.int .i64 vn,.string s,.int .i64 r1,.int .i64 r2,.int .i64 r1,.int .i64 r2,.int .i64 op,.int .u8 (fn:Nat),.int .i64 nn] rfl).alloc (w.heap.size+1) 27 [.int .u8 3,.int .u8 0,.int .i64 0,.string ⟨#[]⟩,.int .i64 r1,.int .i64 r2,.int .i64 r1,.int .i64 r2,.int .i64 0,.int .u8 0,.int .i64 0] (by simp))
 go_enter func116,ntmps116
 go_wp2_with fail
 generalize ((w.alloc (.cells #[.int .u8 3,.int .u8 (vk:Nat),.int .i64 vn,.string s,.int .i64 r1,.int .i64 r2,.int .i64 r1,.int .i64 r2,.int .i64 op,.int .u8 (fn:Nat),.int .i64 nn] 27)).alloc (.cells #[.int .u8 3,.int .u8 0,.int .i64 0,.string ⟨#[]⟩,.int .i64 r1,.int .i64 r2,.int .i64 r1,.int .i64 r2,.int .i64 0,.int .u8 0,.int .i64 0] 27))=W2 at H1 ⊢
 refine cM (ce r1 r2 r1 r2 _) H1 fun w3 H5=>?_
 rw [HC.out]
 clear H1
 have F6:=sE H5
 rcases HV.out with ⟨hc0,rfl⟩ | ⟨rfl,rfl⟩
 ·clear HC HV
  go_wp2_with fail
  all_goals go_ret
  all_goals exact ⟨rfl,H5.out.bel⟩
 clear HC HV
 go_wp2_with fail
 all_goals go_ret
 all_goals exact ⟨rfl,H5.out.bel⟩
theorem xu (vk:Nat) (vn r1 r2 r3 r4 op:Int) (fn:Nat) (nn:Int) (s:ByteArray) (V c:Int) (hc:bi ⟨r1,r2,r3,r4⟩=c) (hV:((c == 0)=false∧V=2)∨(c=0∧bl 3 (vk:Nat) vn r1 r2 r3 r4 op (fn:Nat) nn 3 0 0 r1 r2 r3 r4 0 0 0 s.toList []=true∧V=0)∨(c=0∧bl 3 (vk:Nat) vn r1 r2 r3 r4 op (fn:Nat) nn 3 0 0 r1 r2 r3 r4 0 0 0 s.toList []=false∧V=2)) (h13:(r1 == r3)=false) (w:World) :
  Calls prog 116 #[.agg #[.int .u8 3,.int .u8 (vk:Nat),.int .i64 vn,.string s,.int .i64 r1,.int .i64 r2,.int .i64 r3,.int .i64 r4,.int .i64 op,.int .u8 (fn:Nat),.int .i64 nn]] w fun e w'=>e=.returned (.int .i64 V)∧Below w.heap.size w w':=by
 have HC:=keep hc
 have HV:=keep hV
 clear hc hV
 have H1:=Lib.hid (((Ok.start w).alloc w.heap.size 27 [.int .u8 3,.int .u8 (vk:Nat),.int .i64 vn,.string s,.int .i64 r1,.int .i64 r2,.int .i64 r3,.int .i64 r4,.int .i64 op,.int .u8 (fn:Nat),.int .i64 nn] rfl).alloc (w.heap.size+1) 27 [.int .u8 3,.int .u8 0,.int .i64 0,.string ⟨#[]⟩,.int .i64 r1,.int .i64 r2,.int .i64 r3,.int .i64 r4,.int .i64 0,.int .u8 0,.int .i64 0] (by simp))
 go_enter func116,ntmps116
 go_wp2_with fail
 generalize ((w.alloc (.cells #[.int .u8 3,.int .u8 (vk:Nat),.int .i64 vn,.string s,.int .i64 r1,.int .i64 r2,.int .i64 r3,.int .i64 r4,.int .i64 op,.int .u8 (fn:Nat),.int .i64 nn] 27)).alloc (.cells #[.int .u8 3,.int .u8 0,.int .i64 0,.string ⟨#[]⟩,.int .i64 r1,.int .i64 r2,.int .i64 r3,.int .i64 r4,.int .i64 0,.int .u8 0,.int .i64 0] 27))=W2 at H1 ⊢
 refine cM (ce r1 r2 r3 r4 _) H1 fun w3 H5=>?_
 rw [HC.out]
 clear H1
 have F6:=sE H5
 rcases HV.out with ⟨hc0,rfl⟩ | ⟨rfl,hb,rfl⟩ | ⟨rfl,hb,rfl⟩
 ·clear HC HV
  go_wp2_with fail
  all_goals go_ret
  all_goals exact ⟨rfl,H5.out.bel⟩
 ·clear HC HV
  go_wp2_with fail
  all_goals go_ret
  all_goals exact ⟨rfl,H5.out.bel⟩
 clear HC HV
 go_wp2_with fail
 all_goals go_ret
 all_goals exact ⟨rfl,H5.out.bel⟩
theorem xv (vk:Nat) (vn r1 r2 r4 op:Int) (fn:Nat) (nn:Int) (s:ByteArray) (V c:Int) (hc:bi ⟨r1,r2,r1,r4⟩=c) (hV:((c == 0)=false∧V=2)∨(c=0∧bl 3 (vk:Nat) vn r1 r2 r1 r4 op (fn:Nat) nn 3 0 0 r1 r2 r1 r4 0 0 0 s.toList []=true∧V=0)∨(c=0∧bl 3 (vk:Nat) vn r1 r2 r1 r4 op (fn:Nat) nn 3 0 0 r1 r2 r1 r4 0 0 0 s.toList []=false∧V=2)) (h24:(r2 == r4)=false) (w:World) :
  Calls prog 116 #[.agg #[.int .u8 3,.int .u8 (vk:Nat),.int .i64 vn,.string s,.int .i64 r1,.int .i64 r2,.int .i64 r1,.int .i64 r4,.int .i64 op,.int .u8 (fn:Nat),.int .i64 nn]] w fun e w'=>e=.returned (.int .i64 V)∧Below w.heap.size w w':=by
 have HC:=keep hc
 have HV:=keep hV
 clear hc hV
 have H1:=Lib.hid (((Ok.start w).alloc w.heap.size 27 [.int .u8 3,.int .u8 (vk:Nat),.int .i64 vn,.string s,.int .i64 r1,.int .i64 r2,.int .i64 r1,.int .i64 r4,.int .i64 op,.int .u8 (fn:Nat),.int .i64 nn] rfl).alloc (w.heap.size+1) 27 [.int .u8 3,.int .u8 0,.int .i64 0,.string ⟨#[]⟩,.int .i64 r1,.int .i64 r2,.int .i64 r1,.int .i64 r4,.int .i64 0,.int .u8 0,.int .i64 0] (by simp))
 go_enter func116,ntmps116
 go_wp2_with fail
 generalize ((w.alloc (.cells #[.int .u8 3,.int .u8 (vk:Nat),.int .i64 vn,.string s,.int .i64 r1,.int .i64 r2,.int .i64 r1,.int .i64 r4,.int .i64 op,.int .u8 (fn:Nat),.int .i64 nn] 27)).alloc (.cells #[.int .u8 3,.int .u8 0,.int .i64 0,.string ⟨#[]⟩,.int .i64 r1,.int .i64 r2,.int .i64 r1,.int .i64 r4,.int .i64 0,.int .u8 0,.int .i64 0] 27))=W2 at H1 ⊢
 refine cM (ce r1 r2 r1 r4 _) H1 fun w3 H5=>?_
 rw [HC.out]
 clear H1
 have F6:=sE H5
 rcases HV.out with ⟨hc0,rfl⟩ | ⟨rfl,hb,rfl⟩ | ⟨rfl,hb,rfl⟩
 ·clear HC HV
  go_wp2_with fail
  all_goals go_ret
  all_goals exact ⟨rfl,H5.out.bel⟩
 ·clear HC HV
  go_wp2_with fail
  all_goals go_ret
  all_goals exact ⟨rfl,H5.out.bel⟩
 clear HC HV
 go_wp2_with fail
 all_goals go_ret
 all_goals exact ⟨rfl,H5.out.bel⟩
theorem xx (vk:Nat) (vn r1 r2 r3 r4 op:Int) (fn:Nat) (nn:Int) (s:ByteArray) (V:Int) (hV:V=0) (hb:bl 4 (vk:Nat) vn r1 r2 r3 r4 op (fn:Nat) nn 4 0 0 0 0 0 0 0 0 0 s.toList []=true) (w:World) :
  Calls prog 116 #[.agg #[.int .u8 4,.int .u8 (vk:Nat),.int .i64 vn,.string s,.int .i64 r1,.int .i64 r2,.int .i64 r3,.int .i64 r4,.int .i64 op,.int .u8 (fn:Nat),.int .i64 nn]] w fun e w'=>e=.returned (.int .i64 V)∧Below w.heap.size w w':=by
 subst hV
 have H1:=Lib.hid (((Ok.start w).alloc w.heap.size 27 [.int .u8 4,.int .u8 (vk:Nat),.int .i64 vn,.string s,.int .i64 r1,.int .i64 r2,.int .i64 r3,.int .i64 r4,.int .i64 op,.int .u8 (fn:Nat),.int .i64 nn] rfl).alloc (w.heap.size+1) 27 [.int .u8 4,.int .u8 0,.int .i64 0,.string ⟨#[]⟩,.int .i64 0,.int .i64 0,.int .i64 0,.int .i64 0,.int .i64 0,.int .u8 0,.int .i64 0] (by simp))
 go_enter func116,ntmps116
 go_wp2_with fail
 generalize ((w.alloc (.cells #[.int .u8 4,.int .u8 (vk:Nat),.int .i64 vn,.string s,.int .i64 r1,.int .i64 r2,.int .i64 r3,.int .i64 r4,.int .i64 op,.int .u8 (fn:Nat),.int .i64 nn] 27)).alloc (.cells #[.int .u8 4,.int .u8 0,.int .i64 0,.string ⟨#[]⟩,.int .i64 0,.int .i64 0,.int .i64 0,.int .i64 0,.int .i64 0,.int .u8 0,.int .i64 0] 27))=W2 at H1 ⊢
 all_goals go_ret
 all_goals exact ⟨rfl,H1.out.bel⟩
theorem An (vk:Nat) (vn r1 r2 r3 r4 op:Int) (fn:Nat) (nn:Int) (s:ByteArray) (V:Int) (hV:V=2) (hb:bl 4 (vk:Nat) vn r1 r2 r3 r4 op (fn:Nat) nn 4 0 0 0 0 0 0 0 0 0 s.toList []=false) (w:World) :
  Calls prog 116 #[.agg #[.int .u8 4,.int .u8 (vk:Nat),.int .i64 vn,.string s,.int .i64 r1,.int .i64 r2,.int .i64 r3,.int .i64 r4,.int .i64 op,.int .u8 (fn:Nat),.int .i64 nn]] w fun e w'=>e=.returned (.int .i64 V)∧Below w.heap.size w w':=by
 subst hV
 have H1:=Lib.hid (((Ok.start w).alloc w.heap.size 27 [.int .u8 4,.int .u8 (vk:Nat),.int .i64 vn,.string s,.int .i64 r1,.int .i64 r2,.int .i64 r3,.int .i64 r4,.int .i64 op,.int .u8 (fn:Nat),.int .i64 nn] rfl).alloc (w.heap.size+1) 27 [.int .u8 4,.int .u8 0,.int .i64 0,.string ⟨#[]⟩,.int .i64 0,.int .i64 0,.int .i64 0,.int .i64 0,.int .i64 0,.int .u8 0,.int .i64 0] (by simp))
 go_enter func116,ntmps116
 go_wp2_with fail
 generalize ((w.alloc (.cells #[.int .u8 4,.int .u8 (vk:Nat),.int .i64 vn,.string s,.int .i64 r1,.int .i64 r2,.int .i64 r3,.int .i64 r4,.int .i64 op,.int .u8 (fn:Nat),.int .i64 nn] 27)).alloc (.cells #[.int .u8 4,.int .u8 0,.int .i64 0,.string ⟨#[]⟩,.int .i64 0,.int .i64 0,.int .i64 0,.int .i64 0,.int .i64 0,.int .u8 0,.int .i64 0] 27))=W2 at H1 ⊢
 all_goals go_ret
 all_goals exact ⟨rfl,H1.out.bel⟩
theorem xy (vk:Nat) (vn r1 r2 r3 r4 op:Int) (fn:Nat) (nn:Int) (s:ByteArray) (V:Int) (hV:V=0) (hb:bl 5 (vk:Nat) vn r1 r2 r3 r4 op (fn:Nat) nn 5 0 0 0 0 0 0 0 0 0 s.toList []=true) (w:World) :
  Calls prog 116 #[.agg #[.int .u8 5,.int .u8 (vk:Nat),.int .i64 vn,.string s,.int .i64 r1,.int .i64 r2,.int .i64 r3,.int .i64 r4,.int .i64 op,.int .u8 (fn:Nat),.int .i64 nn]] w fun e w'=>e=.returned (.int .i64 V)∧Below w.heap.size w w':=by
 subst hV
 have H1:=Lib.hid (((Ok.start w).alloc w.heap.size 27 [.int .u8 5,.int .u8 (vk:Nat),.int .i64 vn,.string s,.int .i64 r1,.int .i64 r2,.int .i64 r3,.int .i64 r4,.int .i64 op,.int .u8 (fn:Nat),.int .i64 nn] rfl).alloc (w.heap.size+1) 27 [.int .u8 5,.int .u8 0,.int .i64 0,.string ⟨#[]⟩,.int .i64 0,.int .i64 0,.int .i64 0,.int .i64 0,.int .i64 0,.int .u8 0,.int .i64 0] (by simp))
 go_enter func116,ntmps116
 go_wp2_with fail
 generalize ((w.alloc (.cells #[.int .u8 5,.int .u8 (vk:Nat),.int .i64 vn,.string s,.int .i64 r1,.int .i64 r2,.int .i64 r3,.int .i64 r4,.int .i64 op,.int .u8 (fn:Nat),.int .i64 nn] 27)).alloc (.cells #[.int .u8 5,.int .u8 0,.int .i64 0,.string ⟨#[]⟩,.int .i64 0,.int .i64 0,.int .i64 0,.int .i64 0,.int .i64 0,.int .u8 0,.int .i64 0] 27))=W2 at H1 ⊢
 all_goals go_ret
 all_goals exact ⟨rfl,H1.out.bel⟩
theorem Ao (vk:Nat) (vn r1 r2 r3 r4 op:Int) (fn:Nat) (nn:Int) (s:ByteArray) (V:Int) (hV:V=2) (hb:bl 5 (vk:Nat) vn r1 r2 r3 r4 op (fn:Nat) nn 5 0 0 0 0 0 0 0 0 0 s.toList []=false) (w:World) :
  Calls prog 116 #[.agg #[.int .u8 5,.int .u8 (vk:Nat),.int .i64 vn,.string s,.int .i64 r1,.int .i64 r2,.int .i64 r3,.int .i64 r4,.int .i64 op,.int .u8 (fn:Nat),.int .i64 nn]] w fun e w'=>e=.returned (.int .i64 V)∧Below w.heap.size w w':=by
 subst hV
 have H1:=Lib.hid (((Ok.start w).alloc w.heap.size 27 [.int .u8 5,.int .u8 (vk:Nat),.int .i64 vn,.string s,.int .i64 r1,.int .i64 r2,.int .i64 r3,.int .i64 r4,.int .i64 op,.int .u8 (fn:Nat),.int .i64 nn] rfl).alloc (w.heap.size+1) 27 [.int .u8 5,.int .u8 0,.int .i64 0,.string ⟨#[]⟩,.int .i64 0,.int .i64 0,.int .i64 0,.int .i64 0,.int .i64 0,.int .u8 0,.int .i64 0] (by simp))
 go_enter func116,ntmps116
 go_wp2_with fail
 generalize ((w.alloc (.cells #[.int .u8 5,.int .u8 (vk:Nat),.int .i64 vn,.string s,.int .i64 r1,.int .i64 r2,.int .i64 r3,.int .i64 r4,.int .i64 op,.int .u8 (fn:Nat),.int .i64 nn] 27)).alloc (.cells #[.int .u8 5,.int .u8 0,.int .i64 0,.string ⟨#[]⟩,.int .i64 0,.int .i64 0,.int .i64 0,.int .i64 0,.int .i64 0,.int .u8 0,.int .i64 0] 27))=W2 at H1 ⊢
 all_goals go_ret
 all_goals exact ⟨rfl,H1.out.bel⟩
theorem Aq (vk:Nat) (vn r1 r2 r3 r4 op:Int) (fn:Nat) (nn:Int) (s:ByteArray) (V:Int) (hV:V=2) (h1:¬ 1≤op) (w:World) :
  Calls prog 116 #[.agg #[.int .u8 6,.int .u8 (vk:Nat),.int .i64 vn,.string s,.int .i64 r1,.int .i64 r2,.int .i64 r3,.int .i64 r4,.int .i64 op,.int .u8 (fn:Nat),.int .i64 nn]] w fun e w'=>e=.returned (.int .i64 V)∧Below w.heap.size w w':=by
 subst hV
 have H1:=Lib.hid (((Ok.start w).alloc w.heap.size 27 [.int .u8 6,.int .u8 (vk:Nat),.int .i64 vn,.string s,.int .i64 r1,.int .i64 r2,.int .i64 r3,.int .i64 r4,.int .i64 op,.int .u8 (fn:Nat),.int .i64 nn] rfl).alloc (w.heap.size+1) 27 [.int .u8 6,.int .u8 0,.int .i64 0,.string ⟨#[]⟩,.int .i64 0,.int .i64 0,.int .i64 0,.int .i64 0,.int .i64 op,.int .u8 0,.int .i64 0] (by simp))
 go_enter func116,ntmps116
 go_wp2_with fail
 generalize ((w.alloc (.cells #[.int .u8 6,.int .u8 (vk:Nat),.int .i64 vn,.string s,.int .i64 r1,.int .i64 r2,.int .i64 r3,.int .i64 r4,.int .i64 op,.int .u8 (fn:Nat),.int .i64 nn] 27)).alloc (.cells #[.int .u8 6,.int .u8 0,.int .i64 0,.string ⟨#[]⟩,.int .i64 0,.int .i64 0,.int .i64 0,.int .i64 0,.int .i64 op,.int .u8 0,.int .i64 0] 27))=W2 at H1 ⊢
 all_goals go_ret
 all_goals exact ⟨rfl,H1.out.bel⟩
theorem Ap (vk:Nat) (vn r1 r2 r3 r4 op:Int) (fn:Nat) (nn:Int) (s:ByteArray) (V:Int) (hV:V=2) (h1:1≤op) (h12:¬ op≤12) (w:World) :
  Calls prog 116 #[.agg #[.int .u8 6,.int .u8 (vk:Nat),.int .i64 vn,.string s,.int .i64 r1,.int .i64 r2,.int .i64 r3,.int .i64 r4,.int .i64 op,.int .u8 (fn:Nat),.int .i64 nn]] w fun e w'=>e=.returned (.int .i64 V)∧Below w.heap.size w w':=by
 subst hV
 have H1:=Lib.hid (((Ok.start w).alloc w.heap.size 27 [.int .u8 6,.int .u8 (vk:Nat),.int .i64 vn,.string s,.int .i64 r1,.int .i64 r2,.int .i64 r3,.int .i64 r4,.int .i64 op,.int .u8 (fn:Nat),.int .i64 nn] rfl).alloc (w.heap.size+1) 27 [.int .u8 6,.int .u8 0,.int .i64 0,.string ⟨#[]⟩,.int .i64 0,.int .i64 0,.int .i64 0,.int .i64 0,.int .i64 op,.int .u8 0,.int .i64 0] (by simp))
 go_enter func116,ntmps116
 go_wp2_with fail
 generalize ((w.alloc (.cells #[.int .u8 6,.int .u8 (vk:Nat),.int .i64 vn,.string s,.int .i64 r1,.int .i64 r2,.int .i64 r3,.int .i64 r4,.int .i64 op,.int .u8 (fn:Nat),.int .i64 nn] 27)).alloc (.cells #[.int .u8 6,.int .u8 0,.int .i64 0,.string ⟨#[]⟩,.int .i64 0,.int .i64 0,.int .i64 0,.int .i64 0,.int .i64 op,.int .u8 0,.int .i64 0] 27))=W2 at H1 ⊢
 all_goals go_ret
 all_goals exact ⟨rfl,H1.out.bel⟩
theorem xz (vk:Nat) (vn r1 r2 r3 r4 op:Int) (fn:Nat) (nn:Int) (s:ByteArray) (V:Int) (hV:V=0) (h1:1≤op) (h12:op≤12) (hb:bl 6 (vk:Nat) vn r1 r2 r3 r4 op (fn:Nat) nn 6 0 0 0 0 0 0 op 0 0 s.toList []=true) (w:World) :
  Calls prog 116 #[.agg #[.int .u8 6,.int .u8 (vk:Nat),.int .i64 vn,.string s,.int .i64 r1,.int .i64 r2,.int .i64 r3,.int .i64 r4,.int .i64 op,.int .u8 (fn:Nat),.int .i64 nn]] w fun e w'=>e=.returned (.int .i64 V)∧Below w.heap.size w w':=by
 subst hV
 have H1:=Lib.hid (((Ok.start w).alloc w.heap.size 27 [.int .u8 6,.int .u8 (vk:Nat),.int .i64 vn,.string s,.int .i64 r1,.int .i64 r2,.int .i64 r3,.int .i64 r4,.int .i64 op,.int .u8 (fn:Nat),.int .i64 nn] rfl).alloc (w.heap.size+1) 27 [.int .u8 6,.int .u8 0,.int .i64 0,.string ⟨#[]⟩,.int .i64 0,.int .i64 0,.int .i64 0,.int .i64 0,.int .i64 op,.int .u8 0,.int .i64 0] (by simp))
 go_enter func116,ntmps116
 go_wp2_with fail
 generalize ((w.alloc (.cells #[.int .u8 6,.int .u8 (vk:Nat),.int .i64 vn,.string s,.int .i64 r1,.int .i64 r2,.int .i64 r3,.int .i64 r4,.int .i64 op,.int .u8 (fn:Nat),.int .i64 nn] 27)).alloc (.cells #[.int .u8 6,.int .u8 0,.int .i64 0,.string ⟨#[]⟩,.int .i64 0,.int .i64 0,.int .i64 0,.int .i64 0,.int .i64 op,.int .u8 0,.int .i64 0] 27))=W2 at H1 ⊢
 all_goals go_ret
 all_goals exact ⟨rfl,H1.out.bel⟩
theorem Ar (vk:Nat) (vn r1 r2 r3 r4 op:Int) (fn:Nat) (nn:Int) (s:ByteArray) (V:Int) (hV:V=2) (h1:1≤op) (h12:op≤12) (hb:bl 6 (vk:Nat) vn r1 r2 r3 r4 op (fn:Nat) nn 6 0 0 0 0 0 0 op 0 0 s.toList []=false) (w:World) :
  Calls prog 116 #[.agg #[.int .u8 6,.int .u8 (vk:Nat),.int .i64 vn,.string s,.int .i64 r1,.int .i64 r2,.int .i64 r3,.int .i64 r4,.int .i64 op,.int .u8 (fn:Nat),.int .i64 nn]] w fun e w'=>e=.returned (.int .i64 V)∧Below w.heap.size w w':=by
 subst hV
 have H1:=Lib.hid (((Ok.start w).alloc w.heap.size 27 [.int .u8 6,.int .u8 (vk:Nat),.int .i64 vn,.string s,.int .i64 r1,.int .i64 r2,.int .i64 r3,.int .i64 r4,.int .i64 op,.int .u8 (fn:Nat),.int .i64 nn] rfl).alloc (w.heap.size+1) 27 [.int .u8 6,.int .u8 0,.int .i64 0,.string ⟨#[]⟩,.int .i64 0,.int .i64 0,.int .i64 0,.int .i64 0,.int .i64 op,.int .u8 0,.int .i64 0] (by simp))
 go_enter func116,ntmps116
 go_wp2_with fail
 generalize ((w.alloc (.cells #[.int .u8 6,.int .u8 (vk:Nat),.int .i64 vn,.string s,.int .i64 r1,.int .i64 r2,.int .i64 r3,.int .i64 r4,.int .i64 op,.int .u8 (fn:Nat),.int .i64 nn] 27)).alloc (.cells #[.int .u8 6,.int .u8 0,.int .i64 0,.string ⟨#[]⟩,.int .i64 0,.int .i64 0,.int .i64 0,.int .i64 0,.int .i64 op,.int .u8 0,.int .i64 0] 27))=W2 at H1 ⊢
 all_goals go_ret
 all_goals exact ⟨rfl,H1.out.bel⟩
theorem uQ (k:Nat) (vk:Nat) (vn r1 r2 r3 r4 op:Int) (fn:Nat) (nn:Int) (s:ByteArray) (V:Int) (hV:V=2) (h1:((k:Int) == 1)=false) (h2:((k:Int) == 2)=false) (h3:((k:Int) == 3)=false) (h4:((k:Int) == 4)=false) (h5:((k:Int) == 5)=false) (h6:((k:Int) == 6)=false) (h7:((k:Int) == 7)=false) (w:World) :
  Calls prog 116 #[.agg #[.int .u8 (k:Nat),.int .u8 (vk:Nat),.int .i64 vn,.string s,.int .i64 r1,.int .i64 r2,.int .i64 r3,.int .i64 r4,.int .i64 op,.int .u8 (fn:Nat),.int .i64 nn]] w fun e w'=>e=.returned (.int .i64 V)∧Below w.heap.size w w':=by
 subst hV
 have H1:=Lib.hid (((Ok.start w).alloc w.heap.size 27 [.int .u8 (k:Nat),.int .u8 (vk:Nat),.int .i64 vn,.string s,.int .i64 r1,.int .i64 r2,.int .i64 r3,.int .i64 r4,.int .i64 op,.int .u8 (fn:Nat),.int .i64 nn] rfl).alloc (w.heap.size+1) 27 [.int .u8 (k:Nat),.int .u8 0,.int .i64 0,.string ⟨#[]⟩,.int .i64 0,.int .i64 0,.int .i64 0,.int .i64 0,.int .i64 0,.int .u8 0,.int .i64 0] (by simp))
 go_enter func116,ntmps116
 go_wp2_with fail
 generalize ((w.alloc (.cells #[.int .u8 (k:Nat),.int .u8 (vk:Nat),.int .i64 vn,.string s,.int .i64 r1,.int .i64 r2,.int .i64 r3,.int .i64 r4,.int .i64 op,.int .u8 (fn:Nat),.int .i64 nn] 27)).alloc (.cells #[.int .u8 (k:Nat),.int .u8 0,.int .i64 0,.string ⟨#[]⟩,.int .i64 0,.int .i64 0,.int .i64 0,.int .i64 0,.int .i64 0,.int .u8 0,.int .i64 0] 27))=W2 at H1 ⊢
 all_goals go_ret
 all_goals exact ⟨rfl,H1.out.bel⟩
theorem xA (vk:Nat) (vn r1 r2 r3 r4 op:Int) (fn:Nat) (nn:Int) (s:ByteArray) (V:Int) (hV:V=2) (h0:¬ 0≤nn) (w:World) :
  Calls prog 116 #[.agg #[.int .u8 7,.int .u8 (vk:Nat),.int .i64 vn,.string s,.int .i64 r1,.int .i64 r2,.int .i64 r3,.int .i64 r4,.int .i64 op,.int .u8 (fn:Nat),.int .i64 nn]] w fun e w'=>e=.returned (.int .i64 V)∧Below w.heap.size w w':=by
 subst hV
 have H1:=Lib.hid (((Ok.start w).alloc w.heap.size 27 [.int .u8 7,.int .u8 (vk:Nat),.int .i64 vn,.string s,.int .i64 r1,.int .i64 r2,.int .i64 r3,.int .i64 r4,.int .i64 op,.int .u8 (fn:Nat),.int .i64 nn] rfl).var (w.heap.size+1) 27 [.int .u8 7,.int .u8 0,.int .i64 0,.string ⟨#[]⟩,.int .i64 0,.int .i64 0,.int .i64 0,.int .i64 0,.int .i64 0,.int .u8 0,.int .i64 0] (by simp))
 go_enter func116,ntmps116
 go_wp2_with fail
 generalize ((w.alloc (.cells #[.int .u8 7,.int .u8 (vk:Nat),.int .i64 vn,.string s,.int .i64 r1,.int .i64 r2,.int .i64 r3,.int .i64 r4,.int .i64 op,.int .u8 (fn:Nat),.int .i64 nn] 27)).alloc (.cells #[.int .u8 7,.int .u8 0,.int .i64 0,.string ⟨#[]⟩,.int .i64 0,.int .i64 0,.int .i64 0,.int .i64 0,.int .i64 0,.int .u8 0,.int .i64 0] 27))=W2 at H1 ⊢
 have F3:=sE H1
 go_region
 clear F3
 have hfar:∀ x∈[af (w.heap.size) 27 [.int .u8 7,.int .u8 (vk:Nat),.int .i64 vn,.string s,.int .i64 r1,.int .i64 r2,.int .i64 r3,.int .i64 r4,.int .i64 op,.int .u8 (fn:Nat),.int .i64 nn]],x.far (some (w.heap.size+1)):=by
  intro x hx
  simp at hx
  subst hx
  show some w.heap.size≠some (w.heap.size+1)
  simp
 have H5:=Lib.hid (((H1.out.set_ (i:=9) (u:=.int .u8 (fn:Nat)) (by omega) hfar).set_ (i:=10) (u:=.int .i64 nn) (by omega) hfar).drew)
 clear hfar H1
 have H6:Hid (Ok w [ah (w.heap.size+1) 27 [.int .u8 7,.int .u8 0,.int .i64 0,.string ⟨#[]⟩,.int .i64 0,.int .i64 0,.int .i64 0,.int .i64 0,.int .i64 0,.int .u8 (fn:Nat),.int .i64 nn],af (w.heap.size) 27 [.int .u8 7,.int .u8 (vk:Nat),.int .i64 vn,.string s,.int .i64 r1,.int .i64 r2,.int .i64 r3,.int .i64 r4,.int .i64 op,.int .u8 (fn:Nat),.int .i64 nn]] (((W2.setCell ⟨w.heap.size+1,9,none⟩ (.int .u8 (fn:Nat))).setCell ⟨w.heap.size+1,10,none⟩ (.int .i64 nn)).drew)):=H5
 clear H5
 generalize ((W2.setCell ⟨w.heap.size+1,9,none⟩ (.int .u8 (fn:Nat))).setCell ⟨w.heap.size+1,10,none⟩ (.int .i64 nn)).drew=W9 at H6 ⊢
 have F4:=sE H6
 go_wp2_with fail
 all_goals go_ret
 all_goals exact ⟨rfl,H6.out.bel⟩
theorem Aw (vk:Nat) (vn r1 r2 r3 r4 op:Int) (fn:Nat) (nn:Int) (s:ByteArray) (V:Int) (hV:V=2) (h0:0≤nn) (hb:bl 7 (vk:Nat) vn r1 r2 r3 r4 op (fn:Nat) nn 7 0 0 0 0 0 0 0 (fn:Nat) nn s.toList []=false) (w:World) :
  Calls prog 116 #[.agg #[.int .u8 7,.int .u8 (vk:Nat),.int .i64 vn,.string s,.int .i64 r1,.int .i64 r2,.int .i64 r3,.int .i64 r4,.int .i64 op,.int .u8 (fn:Nat),.int .i64 nn]] w fun e w'=>e=.returned (.int .i64 V)∧Below w.heap.size w w':=by
 subst hV
 have H1:=Lib.hid (((Ok.start w).alloc w.heap.size 27 [.int .u8 7,.int .u8 (vk:Nat),.int .i64 vn,.string s,.int .i64 r1,.int .i64 r2,.int .i64 r3,.int .i64 r4,.int .i64 op,.int .u8 (fn:Nat),.int .i64 nn] rfl).var (w.heap.size+1) 27 [.int .u8 7,.int .u8 0,.int .i64 0,.string ⟨#[]⟩,.int .i64 0,.int .i64 0,.int .i64 0,.int .i64 0,.int .i64 0,.int .u8 0,.int .i64 0] (by simp))
 go_enter func116,ntmps116
 go_wp2_with fail
 generalize ((w.alloc (.cells #[.int .u8 7,.int .u8 (vk:Nat),.int .i64 vn,.string s,.int .i64 r1,.int .i64 r2,.int .i64 r3,.int .i64 r4,.int .i64 op,.int .u8 (fn:Nat),.int .i64 nn] 27)).alloc (.cells #[.int .u8 7,.int .u8 0,.int .i64 0,.string ⟨#[]⟩,.int .i64 0,.int .i64 0,.int .i64 0,.int .i64 0,.int .i64 0,.int .u8 0,.int .i64 0] 27))=W2 at H1 ⊢
 have F3:=sE H1
 go_region
 clear F3
 have hfar:∀ x∈[af (w.heap.size) 27 [.int .u8 7,.int .u8 (vk:Nat),.int .i64 vn,.string s,.int .i64 r1,.int .i64 r2,.int .i64 r3,.int .i64 r4,.int .i64 op,.int .u8 (fn:Nat),.int .i64 nn]],x.far (some (w.heap.size+1)):=by
  intro x hx
  simp at hx
  subst hx
  show some w.heap.size≠some (w.heap.size+1)
  simp
 have H5:=Lib.hid (((H1.out.set_ (i:=9) (u:=.int .u8 (fn:Nat)) (by omega) hfar).set_ (i:=10) (u:=.int .i64 nn) (by omega) hfar).drew)
 clear hfar H1
 have H6:Hid (Ok w [ah (w.heap.size+1) 27 [.int .u8 7,.int .u8 0,.int .i64 0,.string ⟨#[]⟩,.int .i64 0,.int .i64 0,.int .i64 0,.int .i64 0,.int .i64 0,.int .u8 (fn:Nat),.int .i64 nn],af (w.heap.size) 27 [.int .u8 7,.int .u8 (vk:Nat),.int .i64 vn,.string s,.int .i64 r1,.int .i64 r2,.int .i64 r3,.int .i64 r4,.int .i64 op,.int .u8 (fn:Nat),.int .i64 nn]] (((W2.setCell ⟨w.heap.size+1,9,none⟩ (.int .u8 (fn:Nat))).setCell ⟨w.heap.size+1,10,none⟩ (.int .i64 nn)).drew)):=H5
 clear H5
 generalize ((W2.setCell ⟨w.heap.size+1,9,none⟩ (.int .u8 (fn:Nat))).setCell ⟨w.heap.size+1,10,none⟩ (.int .i64 nn)).drew=W9 at H6 ⊢
 have F4:=sE H6
 go_wp2_with fail
 all_goals go_ret
 all_goals exact ⟨rfl,H6.out.bel⟩
theorem As (vk:Nat) (vn r1 r2 r3 r4 op:Int) (fn:Nat) (nn:Int) (s:ByteArray) (V:Int) (hV:V=10) (h0:0≤nn) (hb:bl 7 (vk:Nat) vn r1 r2 r3 r4 op (fn:Nat) nn 7 0 0 0 0 0 0 0 (fn:Nat) nn s.toList []=true) (HF:bh (fn=0∨50<fn)) (w:World) :
  Calls prog 116 #[.agg #[.int .u8 7,.int .u8 (vk:Nat),.int .i64 vn,.string s,.int .i64 r1,.int .i64 r2,.int .i64 r3,.int .i64 r4,.int .i64 op,.int .u8 (fn:Nat),.int .i64 nn]] w fun e w'=>e=.returned (.int .i64 V)∧Below w.heap.size w w':=by
 subst hV
 have H1:=Lib.hid (((Ok.start w).alloc w.heap.size 27 [.int .u8 7,.int .u8 (vk:Nat),.int .i64 vn,.string s,.int .i64 r1,.int .i64 r2,.int .i64 r3,.int .i64 r4,.int .i64 op,.int .u8 (fn:Nat),.int .i64 nn] rfl).var (w.heap.size+1) 27 [.int .u8 7,.int .u8 0,.int .i64 0,.string ⟨#[]⟩,.int .i64 0,.int .i64 0,.int .i64 0,.int .i64 0,.int .i64 0,.int .u8 0,.int .i64 0] (by simp))
 go_enter func116,ntmps116
 go_wp2_with fail
 generalize ((w.alloc (.cells #[.int .u8 7,.int .u8 (vk:Nat),.int .i64 vn,.string s,.int .i64 r1,.int .i64 r2,.int .i64 r3,.int .i64 r4,.int .i64 op,.int .u8 (fn:Nat),.int .i64 nn] 27)).alloc (.cells #[.int .u8 7,.int .u8 0,.int .i64 0,.string ⟨#[]⟩,.int .i64 0,.int .i64 0,.int .i64 0,.int .i64 0,.int .i64 0,.int .u8 0,.int .i64 0] 27))=W2 at H1 ⊢
 have F3:=sE H1
 go_region
 clear F3
 have hfar:∀ x∈[af (w.heap.size) 27 [.int .u8 7,.int .u8 (vk:Nat),.int .i64 vn,.string s,.int .i64 r1,.int .i64 r2,.int .i64 r3,.int .i64 r4,.int .i64 op,.int .u8 (fn:Nat),.int .i64 nn]],x.far (some (w.heap.size+1)):=by
  intro x hx
  simp at hx
  subst hx
  show some w.heap.size≠some (w.heap.size+1)
  simp
 have H5:=Lib.hid (((H1.out.set_ (i:=9) (u:=.int .u8 (fn:Nat)) (by omega) hfar).set_ (i:=10) (u:=.int .i64 nn) (by omega) hfar).drew)
 clear hfar H1
 have H6:Hid (Ok w [ah (w.heap.size+1) 27 [.int .u8 7,.int .u8 0,.int .i64 0,.string ⟨#[]⟩,.int .i64 0,.int .i64 0,.int .i64 0,.int .i64 0,.int .i64 0,.int .u8 (fn:Nat),.int .i64 nn],af (w.heap.size) 27 [.int .u8 7,.int .u8 (vk:Nat),.int .i64 vn,.string s,.int .i64 r1,.int .i64 r2,.int .i64 r3,.int .i64 r4,.int .i64 op,.int .u8 (fn:Nat),.int .i64 nn]] (((W2.setCell ⟨w.heap.size+1,9,none⟩ (.int .u8 (fn:Nat))).setCell ⟨w.heap.size+1,10,none⟩ (.int .i64 nn)).drew)):=H5
 clear H5
 generalize ((W2.setCell ⟨w.heap.size+1,9,none⟩ (.int .u8 (fn:Nat))).setCell ⟨w.heap.size+1,10,none⟩ (.int .i64 nn)).drew=W9 at H6 ⊢
 have F4:=sE H6
 go_wp2_with fail
 refine (mG fn _ HF.out).mono ?_
 rintro e w5 ⟨rfl,hw⟩
 obtain rfl:W9=w5:=hw.symm
 go_wp2_with fail
 all_goals go_ret
 all_goals exact ⟨rfl,H6.out.bel⟩
theorem Av (vk:Nat) (vn r1 r2 r3 r4 op:Int) (fn:Nat) (nn:Int) (s:ByteArray) (V:Int) (hV:V=11) (h0:0≤nn) (hb:bl 7 (vk:Nat) vn r1 r2 r3 r4 op (fn:Nat) nn 7 0 0 0 0 0 0 0 (fn:Nat) nn s.toList []=true) (HF:bh (1≤fn∧fn≤50)) (g1:nn<((arS fn).1:Nat)) (w:World) :
  Calls prog 116 #[.agg #[.int .u8 7,.int .u8 (vk:Nat),.int .i64 vn,.string s,.int .i64 r1,.int .i64 r2,.int .i64 r3,.int .i64 r4,.int .i64 op,.int .u8 (fn:Nat),.int .i64 nn]] w fun e w'=>e=.returned (.int .i64 V)∧Below w.heap.size w w':=by
 subst hV
 have H1:=Lib.hid (((Ok.start w).alloc w.heap.size 27 [.int .u8 7,.int .u8 (vk:Nat),.int .i64 vn,.string s,.int .i64 r1,.int .i64 r2,.int .i64 r3,.int .i64 r4,.int .i64 op,.int .u8 (fn:Nat),.int .i64 nn] rfl).var (w.heap.size+1) 27 [.int .u8 7,.int .u8 0,.int .i64 0,.string ⟨#[]⟩,.int .i64 0,.int .i64 0,.int .i64 0,.int .i64 0,.int .i64 0,.int .u8 0,.int .i64 0] (by simp))
 go_enter func116,ntmps116
 go_wp2_with fail
 generalize ((w.alloc (.cells #[.int .u8 7,.int .u8 (vk:Nat),.int .i64 vn,.string s,.int .i64 r1,.int .i64 r2,.int .i64 r3,.int .i64 r4,.int .i64 op,.int .u8 (fn:Nat),.int .i64 nn] 27)).alloc (.cells #[.int .u8 7,.int .u8 0,.int .i64 0,.string ⟨#[]⟩,.int .i64 0,.int .i64 0,.int .i64 0,.int .i64 0,.int .i64 0,.int .u8 0,.int .i64 0] 27))=W2 at H1 ⊢
 have F3:=sE H1
 go_region
 clear F3
 have hfar:∀ x∈[af (w.heap.size) 27 [.int .u8 7,.int .u8 (vk:Nat),.int .i64 vn,.string s,.int .i64 r1,.int .i64 r2,.int .i64 r3,.int .i64 r4,.int .i64 op,.int .u8 (fn:Nat),.int .i64 nn]],x.far (some (w.heap.size+1)):=by
  intro x hx
  simp at hx
  subst hx
  show some w.heap.size≠some (w.heap.size+1)
  simp
 have H5:=Lib.hid (((H1.out.set_ (i:=9) (u:=.int .u8 (fn:Nat)) (by omega) hfar).set_ (i:=10) (u:=.int .i64 nn) (by omega) hfar).drew)
 clear hfar H1
 have H6:Hid (Ok w [ah (w.heap.size+1) 27 [.int .u8 7,.int .u8 0,.int .i64 0,.string ⟨#[]⟩,.int .i64 0,.int .i64 0,.int .i64 0,.int .i64 0,.int .i64 0,.int .u8 (fn:Nat),.int .i64 nn],af (w.heap.size) 27 [.int .u8 7,.int .u8 (vk:Nat),.int .i64 vn,.string s,.int .i64 r1,.int .i64 r2,.int .i64 r3,.int .i64 r4,.int .i64 op,.int .u8 (fn:Nat),.int .i64 nn]] (((W2.setCell ⟨w.heap.size+1,9,none⟩ (.int .u8 (fn:Nat))).setCell ⟨w.heap.size+1,10,none⟩ (.int .i64 nn)).drew)):=H5
 clear H5
 generalize ((W2.setCell ⟨w.heap.size+1,9,none⟩ (.int .u8 (fn:Nat))).setCell ⟨w.heap.size+1,10,none⟩ (.int .i64 nn)).drew=W9 at H6 ⊢
 have F4:=sE H6
 go_wp2_with fail
 refine (cZ fn _ HF.out.1 HF.out.2).mono ?_
 rintro e w5 ⟨rfl,hw⟩
 obtain rfl:W9=w5:=hw.symm
 go_wp2_with fail
 all_goals go_ret
 all_goals exact ⟨rfl,H6.out.bel⟩
theorem Au (vk:Nat) (vn r1 r2 r3 r4 op:Int) (fn:Nat) (nn:Int) (s:ByteArray) (V:Int) (hV:V=11) (h0:0≤nn) (hb:bl 7 (vk:Nat) vn r1 r2 r3 r4 op (fn:Nat) nn 7 0 0 0 0 0 0 0 (fn:Nat) nn s.toList []=true) (HF:bh (1≤fn∧fn≤50)) (g1:¬ nn<((arS fn).1:Nat)) (g2:nn>((arS fn).2:Nat)) (w:World) :
  Calls prog 116 #[.agg #[.int .u8 7,.int .u8 (vk:Nat),.int .i64 vn,.string s,.int .i64 r1,.int .i64 r2,.int .i64 r3,.int .i64 r4,.int .i64 op,.int .u8 (fn:Nat),.int .i64 nn]] w fun e w'=>e=.returned (.int .i64 V)∧Below w.heap.size w w':=by
 subst hV
 have H1:=Lib.hid (((Ok.start w).alloc w.heap.size 27 [.int .u8 7,.int .u8 (vk:Nat),.int .i64 vn,.string s,.int .i64 r1,.int .i64 r2,.int .i64 r3,.int .i64 r4,.int .i64 op,.int .u8 (fn:Nat),.int .i64 nn] rfl).var (w.heap.size+1) 27 [.int .u8 7,.int .u8 0,.int .i64 0,.string ⟨#[]⟩,.int .i64 0,.int .i64 0,.int .i64 0,.int .i64 0,.int .i64 0,.int .u8 0,.int .i64 0] (by simp))
 go_enter func116,ntmps116
 go_wp2_with fail
 generalize ((w.alloc (.cells #[.int .u8 7,.int .u8 (vk:Nat),.int .i64 vn,.string s,.int .i64 r1,.int .i64 r2,.int .i64 r3,.int .i64 r4,.int .i64 op,.int .u8 (fn:Nat),.int .i64 nn] 27)).alloc (.cells #[.int .u8 7,.int .u8 0,.int .i64 0,.string ⟨#[]⟩,.int .i64 0,.int .i64 0,.int .i64 0,.int .i64 0,.int .i64 0,.int .u8 0,.int .i64 0] 27))=W2 at H1 ⊢
 have F3:=sE H1
 go_region
 clear F3
 have hfar:∀ x∈[af (w.heap.size) 27 [.int .u8 7,.int .u8 (vk:Nat),.int .i64 vn,.string s,.int .i64 r1,.int .i64 r2,.int .i64 r3,.int .i64 r4,.int .i64 op,.int .u8 (fn:Nat),.int .i64 nn]],x.far (some (w.heap.size+1)):=by
  intro x hx
  simp at hx
  subst hx
  show some w.heap.size≠some (w.heap.size+1)
  simp
 have H5:=Lib.hid (((H1.out.set_ (i:=9) (u:=.int .u8 (fn:Nat)) (by omega) hfar).set_ (i:=10) (u:=.int .i64 nn) (by omega) hfar).drew)
 clear hfar H1
 have H6:Hid (Ok w [ah (w.heap.size+1) 27 [.int .u8 7,.int .u8 0,.int .i64 0,.string ⟨#[]⟩,.int .i64 0,.int .i64 0,.int .i64 0,.int .i64 0,.int .i64 0,.int .u8 (fn:Nat),.int .i64 nn],af (w.heap.size) 27 [.int .u8 7,.int .u8 (vk:Nat),.int .i64 vn,.string s,.int .i64 r1,.int .i64 r2,.int .i64 r3,.int .i64 r4,.int .i64 op,.int .u8 (fn:Nat),.int .i64 nn]] (((W2.setCell ⟨w.heap.size+1,9,none⟩ (.int .u8 (fn:Nat))).setCell ⟨w.heap.size+1,10,none⟩ (.int .i64 nn)).drew)):=H5
 clear H5
 generalize ((W2.setCell ⟨w.heap.size+1,9,none⟩ (.int .u8 (fn:Nat))).setCell ⟨w.heap.size+1,10,none⟩ (.int .i64 nn)).drew=W9 at H6 ⊢
 have F4:=sE H6
 go_wp2_with fail
 refine (cZ fn _ HF.out.1 HF.out.2).mono ?_
 rintro e w5 ⟨rfl,hw⟩
 obtain rfl:W9=w5:=hw.symm
 go_wp2_with fail
 all_goals go_ret
 all_goals exact ⟨rfl,H6.out.bel⟩
theorem Ax (vk:Nat) (vn r1 r2 r3 r4 op:Int) (fn:Nat) (nn:Int) (s:ByteArray) (V:Int) (hV:V=0) (h0:0≤nn) (hb:bl 7 (vk:Nat) vn r1 r2 r3 r4 op (fn:Nat) nn 7 0 0 0 0 0 0 0 (fn:Nat) nn s.toList []=true) (HF:bh (1≤fn∧fn≤50)) (g1:¬ nn<((arS fn).1:Nat)) (g2:¬ nn>((arS fn).2:Nat)) (w:World) :
  Calls prog 116 #[.agg #[.int .u8 7,.int .u8 (vk:Nat),.int .i64 vn,.string s,.int .i64 r1,.int .i64 r2,.int .i64 r3,.int .i64 r4,.int .i64 op,.int .u8 (fn:Nat),.int .i64 nn]] w fun e w'=>e=.returned (.int .i64 V)∧Below w.heap.size w w':=by
 subst hV
 have H1:=Lib.hid (((Ok.start w).alloc w.heap.size 27 [.int .u8 7,.int .u8 (vk:Nat),.int .i64 vn,.string s,.int .i64 r1,.int .i64 r2,.int .i64 r3,.int .i64 r4,.int .i64 op,.int .u8 (fn:Nat),.int .i64 nn] rfl).var (w.heap.size+1) 27 [.int .u8 7,.int .u8 0,.int .i64 0,.string ⟨#[]⟩,.int .i64 0,.int .i64 0,.int .i64 0,.int .i64 0,.int .i64 0,.int .u8 0,.int .i64 0] (by simp))
 go_enter func116,ntmps116
 go_wp2_with fail
 generalize ((w.alloc (.cells #[.int .u8 7,.int .u8 (vk:Nat),.int .i64 vn,.string s,.int .i64 r1,.int .i64 r2,.int .i64 r3,.int .i64 r4,.int .i64 op,.int .u8 (fn:Nat),.int .i64 nn] 27)).alloc (.cells #[.int .u8 7,.int .u8 0,.int .i64 0,.string ⟨#[]⟩,.int .i64 0,.int .i64 0,.int .i64 0,.int .i64 0,.int .i64 0,.int .u8 0,.int .i64 0] 27))=W2 at H1 ⊢
 have F3:=sE H1
 go_region
 clear F3
 have hfar:∀ x∈[af (w.heap.size) 27 [.int .u8 7,.int .u8 (vk:Nat),.int .i64 vn,.string s,.int .i64 r1,.int .i64 r2,.int .i64 r3,.int .i64 r4,.int .i64 op,.int .u8 (fn:Nat),.int .i64 nn]],x.far (some (w.heap.size+1)):=by
  intro x hx
  simp at hx
  subst hx
  show some w.heap.size≠some (w.heap.size+1)
  simp
 have H5:=Lib.hid (((H1.out.set_ (i:=9) (u:=.int .u8 (fn:Nat)) (by omega) hfar).set_ (i:=10) (u:=.int .i64 nn) (by omega) hfar).drew)
 clear hfar H1
 have H6:Hid (Ok w [ah (w.heap.size+1) 27 [.int .u8 7,.int .u8 0,.int .i64 0,.string ⟨#[]⟩,.int .i64 0,.int .i64 0,.int .i64 0,.int .i64 0,.int .i64 0,.int .u8 (fn:Nat),.int .i64 nn],af (w.heap.size) 27 [.int .u8 7,.int .u8 (vk:Nat),.int .i64 vn,.string s,.int .i64 r1,.int .i64 r2,.int .i64 r3,.int .i64 r4,.int .i64 op,.int .u8 (fn:Nat),.int .i64 nn]] (((W2.setCell ⟨w.heap.size+1,9,none⟩ (.int .u8 (fn:Nat))).setCell ⟨w.heap.size+1,10,none⟩ (.int .i64 nn)).drew)):=H5
 clear H5
 generalize ((W2.setCell ⟨w.heap.size+1,9,none⟩ (.int .u8 (fn:Nat))).setCell ⟨w.heap.size+1,10,none⟩ (.int .i64 nn)).drew=W9 at H6 ⊢
 have F4:=sE H6
 go_wp2_with fail
 refine (cZ fn _ HF.out.1 HF.out.2).mono ?_
 rintro e w5 ⟨rfl,hw⟩
 obtain rfl:W9=w5:=hw.symm
 go_wp2_with fail
 all_goals go_ret
 all_goals exact ⟨rfl,H6.out.bel⟩
theorem aU {a:NdA} {j:Nat} (h:a.kind=j) (ho:okA a) :
  (j=1→dF a.vk a.vn a.vt∧a.r=R4.zero∧noE a)∧(j=2→noV a∧aG a.r=true∧(a.r.c1=a.r.c2∧a.r.r1=a.r.r2)∧noE a)∧(j=3→noV a∧aG a.r=true∧¬ (a.r.c1=a.r.c2∧a.r.r1=a.r.r2)∧noE a) ∧
  (j=4∨j=5→noV a∧a.r=R4.zero∧noE a)∧(j=6→noV a∧a.r=R4.zero∧(1≤a.op∧a.op≤12)∧a.fn=0∧a.n=0)∧(j=7→noV a∧a.r=R4.zero∧a.op=0∧0≤a.n)∧(1≤j∧j≤7):=by
 subst h
 rcases ho with ⟨h1,h⟩ | ⟨h1,h⟩ | ⟨h1,h⟩ | ⟨h1,h⟩ | ⟨h1,h⟩ | ⟨h1,h⟩
 ·exact ⟨fun _=>h,fun e=>by omega,fun e=>by omega,fun e=>by omega,fun e=>by omega,fun e=>by omega,by omega⟩
 ·exact ⟨fun e=>by omega,fun _=>h,fun e=>by omega,fun e=>by omega,fun e=>by omega,fun e=>by omega,by omega⟩
 ·exact ⟨fun e=>by omega,fun e=>by omega,fun _=>h,fun e=>by omega,fun e=>by omega,fun e=>by omega,by omega⟩
 ·exact ⟨fun e=>by omega,fun e=>by omega,fun e=>by omega,fun _=>h,fun e=>by omega,fun e=>by omega,by omega⟩
 ·exact ⟨fun e=>by omega,fun e=>by omega,fun e=>by omega,fun e=>by omega,fun _=>h,fun e=>by omega,by omega⟩
 exact ⟨fun e=>by omega,fun e=>by omega,fun e=>by omega,fun e=>by omega,fun e=>by omega,fun _=>h,by omega⟩
theorem oc (a:NdA) (hs:a.vt.length≤4611686018427387904) (w:World) :
  Calls prog 116 #[aA a] w fun e w'=>e=.returned (.int .i64 (ay a))∧Below w.heap.size w w':=by
 obtain ⟨k,vk,vn,vt,⟨r1,r2,r3,r4⟩,op,fn,nn⟩:=a
 have hs:vt.length≤4611686018427387904:=hs
 have hsz:(⟨vt.toArray⟩:ByteArray).size≤4611686018427387904:=by show vt.toArray.size≤_; simpa using hs
 have hl:(⟨vt.toArray⟩:ByteArray).toList=vt:=ByteArray.toList_mk vt
 have hd:(⟨vt.toArray⟩:ByteArray).data.toList=vt:=rfl
 have nope:∀ {x j:Nat},x≠j→((x:Int) == (j:Int))=false:=by intro x j h; simp; omega
 by_cases k1:k=1
 ·subst k1
  have bad:¬ dF vk vn vt→ay ⟨1,vk,vn,vt,⟨r1,r2,r3,r4⟩,op,fn,nn⟩=2:=fun h=>aT fun g=>h (((aU rfl g).1 rfl).1)
  have alt:vk≠0→(vk=1→0≤vn)→(vk=4→vn≤5)→(fS vk vn vt=2∧ay ⟨1,vk,vn,vt,⟨r1,r2,r3,r4⟩,op,fn,nn⟩=2) ∨
    (fS vk vn vt=0∧bl 1 vk vn r1 r2 r3 r4 op fn nn 1 vk vn 0 0 0 0 0 0 0 vt vt=true∧ay ⟨1,vk,vn,vt,⟨r1,r2,r3,r4⟩,op,fn,nn⟩=0) ∨
    (fS vk vn vt=0∧bl 1 vk vn r1 r2 r3 r4 op fn nn 1 vk vn 0 0 0 0 0 0 0 vt vt=false∧ay ⟨1,vk,vn,vt,⟨r1,r2,r3,r4⟩,op,fn,nn⟩=2):=by
   intro g0 g1 g4
   by_cases hc:cellV vk vn vt
   ·have hg:=(gN vk vn vt).2 ⟨hc,g0,g1,g4⟩
    cases hb:bl 1 vk vn r1 r2 r3 r4 op fn nn 1 vk vn 0 0 0 0 0 0 0 vt vt with
    | true =>
     obtain ⟨-,-,-,-,b1,b2,b3,b4,b5,b6,b7⟩:=(aS ..).1 hb
     refine .inr (.inl ⟨bA hc,rfl,bp (.inl ⟨rfl,hg,?_,?_⟩) (by decide:(1:Nat)≠7)⟩)
     ·show (⟨r1,r2,r3,r4⟩:R4)=R4.zero
      rw [b1,b2,b3,b4]; rfl
     exact ⟨b5,by have:(fn:Int)=0:=b6; show fn=0; omega,b7⟩
    | false =>
     refine .inr (.inr ⟨bA hc,rfl,aT fun g => ?_⟩)
     obtain ⟨-,b1,b2,b3,b4⟩:=(aU rfl g).1 rfl
     have b1:(⟨r1,r2,r3,r4⟩:R4)=⟨0,0,0,0⟩:=b1
     injection b1 with c1 c2 c3 c4
     have b3:fn=0:=b3
     have:=(aS 1 vk vn r1 r2 r3 r4 op fn nn 1 vk vn 0 0 0 0 0 0 0 vt vt).2 ⟨rfl,rfl,rfl,rfl,c1,c2,c3,c4,b2,by omega,b4⟩
     rw [hb] at this; cases this
   exact .inl ⟨bg hc,bad fun g=>hc ((gN ..).1 g).1⟩
  by_cases v0:vk=0
  ·subst v0
   exact BF vn r1 r2 r3 r4 op fn nn _ _ (bad fun g=>((gN ..).1 g).2.1 rfl) w
  by_cases v1:vk=1
  ·subst v1
   by_cases hn:0≤vn
   ·exact xp vn r1 r2 r3 r4 op fn nn ⟨vt.toArray⟩ _ (fS 1 vn vt) rfl hsz (by rw [hl]; exact alt (by decide) (fun _=>hn) (fun h=>absurd h (by decide))) hn w
   exact BG vn r1 r2 r3 r4 op fn nn _ _ (bad fun g=>hn (((gN ..).1 g).2.2.1 rfl)) hn w
  by_cases v4:vk=4
  ·subst v4
   by_cases h1:1≤vn
   ·by_cases h5:vn≤5
    ·exact xm vn r1 r2 r3 r4 op fn nn ⟨vt.toArray⟩ _ (fS 4 vn vt) rfl hsz (by rw [hl]; exact alt (by decide) (fun h=>absurd h (by decide)) (fun _=>h5)) h1 h5 w
    exact Al vn r1 r2 r3 r4 op fn nn _ _ (bad fun g=>h5 (((gN ..).1 g).2.2.2 rfl)) h1 h5 w
   refine Am vn r1 r2 r3 r4 op fn nn _ _ (bad fun g => ?_) h1 w
   rcases g with ⟨g,-⟩ | ⟨g,-⟩ | ⟨g,-⟩ | ⟨-,⟨g,-⟩,-⟩
   ·exact absurd g (by decide)
   ·exact absurd g (by decide)
   ·exact absurd g (by decide)
   exact h1 g
  exact xl vk vn r1 r2 r3 r4 op fn nn ⟨vt.toArray⟩ _ (fS vk vn vt) rfl hsz (by rw [hl]; exact alt v0 (fun h=>absurd h v1) (fun h=>absurd h v4)) (nope v0) (nope v1) (nope v4) w
 have hce:∀ r:R4,aG r≠true→(bi r == 0)=false:=by
  intro r h
  unfold bi
  rw [if_neg h]; rfl
 by_cases k2:k=2
 ·subst k2
  by_cases h13:r1=r3
  ·subst h13
   by_cases h24:r2=r4
   ·subst h24
    refine xt vk vn r1 r2 op fn nn ⟨vt.toArray⟩ _ (bi ⟨r1,r2,r1,r2⟩) rfl ?_ w
    rw [hl]
    by_cases hc:aG ⟨r1,r2,r1,r2⟩=true
    ·cases hb:bl 2 vk vn r1 r2 r1 r2 op fn nn 2 0 0 r1 r2 r1 r2 0 0 0 vt [] with
     | true =>
      obtain ⟨-,a1,a2,a3,-,-,-,-,b5,b6,b7⟩:=(aS ..).1 hb
      refine .inr (.inl ⟨bb hc,rfl,bp (.inr (.inl ⟨rfl,⟨by have:(vk:Int)=0:=a1; show vk=0; omega,a2,a3⟩,hc,⟨rfl,rfl⟩,b5,by have:(fn:Int)=0:=b6; show fn=0; omega,b7⟩)) (by decide:(2:Nat)≠7)⟩)
     | false =>
      refine .inr (.inr ⟨bb hc,rfl,aT fun g => ?_⟩)
      obtain ⟨⟨a1,a2,a3⟩,-,-,b5,b6,b7⟩:=(aU rfl g).2.1 rfl
      have a1:vk=0:=a1
      have b6:fn=0:=b6
      have:=(aS 2 vk vn r1 r2 r1 r2 op fn nn 2 0 0 r1 r2 r1 r2 0 0 0 vt []).2 ⟨rfl,by omega,a2,a3,rfl,rfl,rfl,rfl,b5,by omega,b7⟩
      rw [hb] at this; cases this
    exact .inl ⟨hce _ hc,aT fun g=>hc ((aU rfl g).2.1 rfl).2.1⟩
   refine xr vk vn r1 r2 r4 op fn nn ⟨vt.toArray⟩ _ (bi ⟨r1,r2,r1,r4⟩) rfl ?_ (by simpa using h24) w
   have hb:=aT (a:=⟨2,vk,vn,vt,⟨r1,r2,r1,r4⟩,op,fn,nn⟩) fun g=>h24 ((aU rfl g).2.1 rfl).2.2.1.2
   by_cases hc:aG ⟨r1,r2,r1,r4⟩=true
   ·exact .inr ⟨bb hc,hb⟩
   exact .inl ⟨hce _ hc,hb⟩
  refine xq vk vn r1 r2 r3 r4 op fn nn ⟨vt.toArray⟩ _ (bi ⟨r1,r2,r3,r4⟩) rfl ?_ (by simpa using h13) w
  have hb:=aT (a:=⟨2,vk,vn,vt,⟨r1,r2,r3,r4⟩,op,fn,nn⟩) fun g=>h13 ((aU rfl g).2.1 rfl).2.2.1.1
  by_cases hc:aG ⟨r1,r2,r3,r4⟩=true
  ·exact .inr ⟨bb hc,hb⟩
  exact .inl ⟨hce _ hc,hb⟩
 by_cases k3:k=3
 ·subst k3
  have alt:¬ (r1=r3∧r2=r4)→(((bi ⟨r1,r2,r3,r4⟩ == 0)=false)∧ay ⟨3,vk,vn,vt,⟨r1,r2,r3,r4⟩,op,fn,nn⟩=2) ∨
    (bi ⟨r1,r2,r3,r4⟩=0∧bl 3 vk vn r1 r2 r3 r4 op fn nn 3 0 0 r1 r2 r3 r4 0 0 0 vt []=true∧ay ⟨3,vk,vn,vt,⟨r1,r2,r3,r4⟩,op,fn,nn⟩=0) ∨
    (bi ⟨r1,r2,r3,r4⟩=0∧bl 3 vk vn r1 r2 r3 r4 op fn nn 3 0 0 r1 r2 r3 r4 0 0 0 vt []=false∧ay ⟨3,vk,vn,vt,⟨r1,r2,r3,r4⟩,op,fn,nn⟩=2):=by
   intro hne
   by_cases hc:aG ⟨r1,r2,r3,r4⟩=true
   ·cases hb:bl 3 vk vn r1 r2 r3 r4 op fn nn 3 0 0 r1 r2 r3 r4 0 0 0 vt [] with
    | true =>
     obtain ⟨-,a1,a2,a3,-,-,-,-,b5,b6,b7⟩:=(aS ..).1 hb
     refine .inr (.inl ⟨bb hc,rfl,bp (.inr (.inr (.inl ⟨rfl,⟨by have:(vk:Int)=0:=a1; show vk=0; omega,a2,a3⟩,hc,hne,b5,by have:(fn:Int)=0:=b6; show fn=0; omega,b7⟩))) (by decide:(3:Nat)≠7)⟩)
    | false =>
     refine .inr (.inr ⟨bb hc,rfl,aT fun g => ?_⟩)
     obtain ⟨⟨a1,a2,a3⟩,-,-,b5,b6,b7⟩:=(aU rfl g).2.2.1 rfl
     have a1:vk=0:=a1
     have b6:fn=0:=b6
     have:=(aS 3 vk vn r1 r2 r3 r4 op fn nn 3 0 0 r1 r2 r3 r4 0 0 0 vt []).2 ⟨rfl,by omega,a2,a3,rfl,rfl,rfl,rfl,b5,by omega,b7⟩
     rw [hb] at this; cases this
   exact .inl ⟨hce _ hc,aT fun g=>hc ((aU rfl g).2.2.1 rfl).2.1⟩
  by_cases h13:r1=r3
  ·subst h13
   by_cases h24:r2=r4
   ·subst h24
    refine xw vk vn r1 r2 op fn nn ⟨vt.toArray⟩ _ (bi ⟨r1,r2,r1,r2⟩) rfl ?_ w
    have hb:=aT (a:=⟨3,vk,vn,vt,⟨r1,r2,r1,r2⟩,op,fn,nn⟩) fun g=>((aU rfl g).2.2.1 rfl).2.2.1 ⟨rfl,rfl⟩
    by_cases hc:aG ⟨r1,r2,r1,r2⟩=true
    ·exact .inr ⟨bb hc,hb⟩
    exact .inl ⟨hce _ hc,hb⟩
   exact xv vk vn r1 r2 r4 op fn nn ⟨vt.toArray⟩ _ (bi ⟨r1,r2,r1,r4⟩) rfl (by rw [hl]; exact alt (fun h=>h24 h.2)) (by simpa using h24) w
  exact xu vk vn r1 r2 r3 r4 op fn nn ⟨vt.toArray⟩ _ (bi ⟨r1,r2,r3,r4⟩) rfl (by rw [hl]; exact alt (fun h=>h13 h.1)) (by simpa using h13) w
 have p45:k=4∨k=5→(bl k vk vn r1 r2 r3 r4 op fn nn k 0 0 0 0 0 0 0 0 0 vt []=true∧ay ⟨k,vk,vn,vt,⟨r1,r2,r3,r4⟩,op,fn,nn⟩=0)∨(bl k vk vn r1 r2 r3 r4 op fn nn k 0 0 0 0 0 0 0 0 0 vt []=false∧ay ⟨k,vk,vn,vt,⟨r1,r2,r3,r4⟩,op,fn,nn⟩=2):=by
  intro hk
  cases hb:bl k vk vn r1 r2 r3 r4 op fn nn k 0 0 0 0 0 0 0 0 0 vt [] with
  | true =>
   obtain ⟨-,a1,a2,a3,b1,b2,b3,b4,b5,b6,b7⟩:=(aS ..).1 hb
   refine .inl ⟨rfl,bp (.inr (.inr (.inr (.inl ⟨hk,⟨by have:(vk:Int)=0:=a1; show vk=0; omega,a2,a3⟩,?_,b5,by have:(fn:Int)=0:=b6; show fn=0; omega,b7⟩)))) (by show k≠7; omega)⟩
   show (⟨r1,r2,r3,r4⟩:R4)=R4.zero
   rw [b1,b2,b3,b4]; rfl
  | false =>
   refine .inr ⟨rfl,aT fun g => ?_⟩
   obtain ⟨⟨a1,a2,a3⟩,c,b5,b6,b7⟩:=(aU rfl g).2.2.2.1 hk
   have a1:vk=0:=a1
   have b6:fn=0:=b6
   have c:(⟨r1,r2,r3,r4⟩:R4)=⟨0,0,0,0⟩:=c
   injection c with c1 c2 c3 c4
   have:=(aS k vk vn r1 r2 r3 r4 op fn nn k 0 0 0 0 0 0 0 0 0 vt []).2 ⟨rfl,by omega,a2,a3,c1,c2,c3,c4,b5,by omega,b7⟩
   rw [hb] at this; cases this
 by_cases k4:k=4
 ·subst k4
  rcases p45 (.inl rfl) with ⟨hb,hv⟩ | ⟨hb,hv⟩
  ·exact xx vk vn r1 r2 r3 r4 op fn nn ⟨vt.toArray⟩ _ hv (by rw [hl]; exact hb) w
  exact An vk vn r1 r2 r3 r4 op fn nn ⟨vt.toArray⟩ _ hv (by rw [hl]; exact hb) w
 by_cases k5:k=5
 ·subst k5
  rcases p45 (.inr rfl) with ⟨hb,hv⟩ | ⟨hb,hv⟩
  ·exact xy vk vn r1 r2 r3 r4 op fn nn ⟨vt.toArray⟩ _ hv (by rw [hl]; exact hb) w
  exact Ao vk vn r1 r2 r3 r4 op fn nn ⟨vt.toArray⟩ _ hv (by rw [hl]; exact hb) w
 by_cases k6:k=6
 ·subst k6
  by_cases h1:1≤op
  ·by_cases h12:op≤12
   ·cases hb:bl 6 vk vn r1 r2 r3 r4 op fn nn 6 0 0 0 0 0 0 op 0 0 vt [] with
    | true =>
     obtain ⟨-,a1,a2,a3,b1,b2,b3,b4,b5,b6,b7⟩:=(aS ..).1 hb
     refine xz vk vn r1 r2 r3 r4 op fn nn ⟨vt.toArray⟩ _ (bp (.inr (.inr (.inr (.inr (.inl ⟨rfl,⟨by have:(vk:Int)=0:=a1; show vk=0; omega,a2,a3⟩,?_,⟨h1,h12⟩,by have:(fn:Int)=0:=b6; show fn=0; omega,b7⟩))))) (by decide:(6:Nat)≠7)) h1 h12 (by rw [hl]; exact hb) w
     show (⟨r1,r2,r3,r4⟩:R4)=R4.zero
     rw [b1,b2,b3,b4]; rfl
    | false =>
     refine Ar vk vn r1 r2 r3 r4 op fn nn ⟨vt.toArray⟩ _ (aT fun g => ?_) h1 h12 (by rw [hl]; exact hb) w
     obtain ⟨⟨a1,a2,a3⟩,c,-,b6,b7⟩:=(aU rfl g).2.2.2.2.1 rfl
     have a1:vk=0:=a1
     have b6:fn=0:=b6
     have c:(⟨r1,r2,r3,r4⟩:R4)=⟨0,0,0,0⟩:=c
     injection c with c1 c2 c3 c4
     have:=(aS 6 vk vn r1 r2 r3 r4 op fn nn 6 0 0 0 0 0 0 op 0 0 vt []).2 ⟨rfl,by omega,a2,a3,c1,c2,c3,c4,rfl,by omega,b7⟩
     rw [hb] at this; cases this
   exact Ap vk vn r1 r2 r3 r4 op fn nn ⟨vt.toArray⟩ _ (aT fun g=>h12 ((aU rfl g).2.2.2.2.1 rfl).2.2.1.2) h1 h12 w
  exact Aq vk vn r1 r2 r3 r4 op fn nn ⟨vt.toArray⟩ _ (aT fun g=>h1 ((aU rfl g).2.2.2.2.1 rfl).2.2.1.1) h1 w
 by_cases k7:k=7
 ·subst k7
  by_cases h0:0≤nn
  ·cases hb:bl 7 vk vn r1 r2 r3 r4 op fn nn 7 0 0 0 0 0 0 0 fn nn vt [] with
   | true =>
    obtain ⟨-,a1,a2,a3,b1,b2,b3,b4,b5,-,-⟩:=(aS ..).1 hb
    have hok:okA ⟨7,vk,vn,vt,⟨r1,r2,r3,r4⟩,op,fn,nn⟩:=by
     refine .inr (.inr (.inr (.inr (.inr ⟨rfl,⟨by have:(vk:Int)=0:=a1; show vk=0; omega,a2,a3⟩,?_,b5,h0⟩))))
     show (⟨r1,r2,r3,r4⟩:R4)=R4.zero
     rw [b1,b2,b3,b4]; rfl
    by_cases hf:fn=0∨50<fn
    ·exact As vk vn r1 r2 r3 r4 op fn nn ⟨vt.toArray⟩ _ (j3 hok rfl hf) h0 (by rw [hl]; exact hb) (keep hf) w
    have HF:=keep (show 1≤fn∧fn≤50 by omega)
    by_cases g1:nn<((arS fn).1:Nat)
    ·exact Av vk vn r1 r2 r3 r4 op fn nn ⟨vt.toArray⟩ _ (fX hok rfl hf (.inl g1)) h0 (by rw [hl]; exact hb) HF g1 w
    by_cases g2:nn>((arS fn).2:Nat)
    ·exact Au vk vn r1 r2 r3 r4 op fn nn ⟨vt.toArray⟩ _ (fX hok rfl hf (.inr g2)) h0 (by rw [hl]; exact hb) HF g1 g2 w
    exact Ax vk vn r1 r2 r3 r4 op fn nn ⟨vt.toArray⟩ _ (jb hok rfl hf (by rintro (h | h); exact g1 h; exact g2 h)) h0 (by rw [hl]; exact hb) HF g1 g2 w
   | false =>
    refine Aw vk vn r1 r2 r3 r4 op fn nn ⟨vt.toArray⟩ _ (aT fun g => ?_) h0 (by rw [hl]; exact hb) w
    obtain ⟨⟨a1,a2,a3⟩,c,b5,-⟩:=(aU rfl g).2.2.2.2.2.1 rfl
    have a1:vk=0:=a1
    have c:(⟨r1,r2,r3,r4⟩:R4)=⟨0,0,0,0⟩:=c
    injection c with c1 c2 c3 c4
    have:=(aS 7 vk vn r1 r2 r3 r4 op fn nn 7 0 0 0 0 0 0 0 fn nn vt []).2 ⟨rfl,by omega,a2,a3,c1,c2,c3,c4,b5,rfl,rfl⟩
    rw [hb] at this; cases this
  exact xA vk vn r1 r2 r3 r4 op fn nn ⟨vt.toArray⟩ _ (aT fun g=>h0 ((aU rfl g).2.2.2.2.2.1 rfl).2.2.2) h0 w
 refine uQ k vk vn r1 r2 r3 r4 op fn nn ⟨vt.toArray⟩ _ (aT fun g => ?_) (nope k1) (nope k2) (nope k3) (nope k4) (nope k5) (nope k6) (nope k7) w
 have:=(aU rfl g).2.2.2.2.2.2
 simp only [] at this
 omega
