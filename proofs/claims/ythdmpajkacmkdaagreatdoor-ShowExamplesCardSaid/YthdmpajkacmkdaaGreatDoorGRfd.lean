/- The reference's fields, at any node. -/
import Derived.Test.YthdmpajkacmkdaaGreatDoorGNdF
import Derived.Test.YthdmpajkacmkdaaGreatDoorGTg
import Derived.Test.YthdmpajkacmkdaaGreatDoorGTxt
import Derived.Test.YthdmpajkacmkdaaGreatDoorGSxp
namespace Go.Proofs.YthdmpajkacmkdaaGreatDoor
set_option maxRecDepth 100000
set_option maxHeartbeats 4000000
open Go.RowKit Go.Proofs.Tryz
attribute [local go_sem high] qj nH
theorem oT (c d:Int)  (w:World) :
  Calls prog 172 #[.agg #[.int .i64 c,.int .i64 d,.int .i64 c,.int .i64 d]] w fun e w'=>e=.returned (.bool true)∧Below w.heap.size w w':=by
 have H1:=Lib.hid ((Ok.start w).alloc w.heap.size 25 [.int .i64 c,.int .i64 d,.int .i64 c,.int .i64 d] rfl)
 go_enter func172,ntmps172
 go_wp2_with fail
 generalize (w.alloc (.cells #[.int .i64 c,.int .i64 d,.int .i64 c,.int .i64 d] 25))=W2 at H1 ⊢
 go_ret
 exact ⟨rfl,H1.out.bel⟩
theorem vD (a b c d:Int) (h:a≠c) (w:World) :
  Calls prog 172 #[.agg #[.int .i64 a,.int .i64 b,.int .i64 c,.int .i64 d]] w fun e w'=>e=.returned (.bool false)∧Below w.heap.size w w':=by
 have h1:(a == c)=false:=by simpa using h
 have H1:=Lib.hid ((Ok.start w).alloc w.heap.size 25 [.int .i64 a,.int .i64 b,.int .i64 c,.int .i64 d] rfl)
 go_enter func172,ntmps172
 go_wp2_with fail
 generalize (w.alloc (.cells #[.int .i64 a,.int .i64 b,.int .i64 c,.int .i64 d] 25))=W2 at H1 ⊢
 go_ret
 exact ⟨rfl,H1.out.bel⟩
theorem vE (b c d:Int) (h:b≠d) (w:World) :
  Calls prog 172 #[.agg #[.int .i64 c,.int .i64 b,.int .i64 c,.int .i64 d]] w fun e w'=>e=.returned (.bool false)∧Below w.heap.size w w':=by
 have h1:(b == d)=false:=by simpa using h
 have H1:=Lib.hid ((Ok.start w).alloc w.heap.size 25 [.int .i64 c,.int .i64 b,.int .i64 c,.int .i64 d] rfl)
 go_enter func172,ntmps172
 go_wp2_with fail
 generalize (w.alloc (.cells #[.int .i64 c,.int .i64 b,.int .i64 c,.int .i64 d] 25))=W2 at H1 ⊢
 go_ret
 exact ⟨by first | rfl | simp [h],H1.out.bel⟩
theorem se (a b c d:Int) (h:¬ (a=c∧b=d)) (w:World) :
  Calls prog 172 #[.agg #[.int .i64 a,.int .i64 b,.int .i64 c,.int .i64 d]] w fun e w'=>e=.returned (.bool false)∧Below w.heap.size w w':=by
 by_cases hac:a=c
 ·subst hac
  exact vE b a d (fun h9=>h ⟨rfl,h9⟩) w
 exact vD a b c d hac w
theorem Ay (vk:Nat) (vn r1 r2 r3 r4 op:Int) (fn:Nat) (nn:Int) (s:ByteArray) (hb:bl 1 (vk:Nat) vn 0 0 0 0 0 0 0 1 (vk:Nat) vn r1 r2 r3 r4 op (fn:Nat) nn s.toList s.toList=false) (w:World) :
  Calls prog 157 #[.agg #[.int .u8 1,.int .u8 (vk:Nat),.int .i64 vn,.string s,.int .i64 r1,.int .i64 r2,.int .i64 r3,.int .i64 r4,.int .i64 op,.int .u8 (fn:Nat),.int .i64 nn]] w fun e w'=>e=.returned (.bool false)∧Below w.heap.size w w':=by
 have H1:=Lib.hid (((Ok.start w).alloc w.heap.size 27 [.int .u8 1,.int .u8 (vk:Nat),.int .i64 vn,.string s,.int .i64 r1,.int .i64 r2,.int .i64 r3,.int .i64 r4,.int .i64 op,.int .u8 (fn:Nat),.int .i64 nn] rfl).alloc (w.heap.size+1) 27 [.int .u8 1,.int .u8 (vk:Nat),.int .i64 vn,.string s,.int .i64 0,.int .i64 0,.int .i64 0,.int .i64 0,.int .i64 0,.int .u8 0,.int .i64 0] (by simp))
 go_enter func157,ntmps157
 go_wp2_with fail
 generalize ((w.alloc (.cells #[.int .u8 1,.int .u8 (vk:Nat),.int .i64 vn,.string s,.int .i64 r1,.int .i64 r2,.int .i64 r3,.int .i64 r4,.int .i64 op,.int .u8 (fn:Nat),.int .i64 nn] 27)).alloc (.cells #[.int .u8 1,.int .u8 (vk:Nat),.int .i64 vn,.string s,.int .i64 0,.int .i64 0,.int .i64 0,.int .i64 0,.int .i64 0,.int .u8 0,.int .i64 0] 27))=W2 at H1 ⊢
 all_goals go_ret
 all_goals exact ⟨rfl,H1.out.bel⟩
theorem xB (vk:Nat) (vn r1 r2 r3 r4 op:Int) (fn:Nat) (nn:Int) (s:ByteArray) (hs:s.size≤4611686018427387904) (hlo : -9223372036854775808≤vn) (B:Bool) (hB:mA vk vn s.data.toList=B) (hb:bl 1 (vk:Nat) vn 0 0 0 0 0 0 0 1 (vk:Nat) vn r1 r2 r3 r4 op (fn:Nat) nn s.toList s.toList=true) (w:World) :
  Calls prog 157 #[.agg #[.int .u8 1,.int .u8 (vk:Nat),.int .i64 vn,.string s,.int .i64 r1,.int .i64 r2,.int .i64 r3,.int .i64 r4,.int .i64 op,.int .u8 (fn:Nat),.int .i64 nn]] w fun e w'=>e=.returned (.bool B)∧Below w.heap.size w w':=by
 have HS:=Lib.hid hs
 have HL:=Lib.hid hlo
 have HB:=keep hB
 clear hs hlo hB
 have H1:=Lib.hid (((Ok.start w).alloc w.heap.size 27 [.int .u8 1,.int .u8 (vk:Nat),.int .i64 vn,.string s,.int .i64 r1,.int .i64 r2,.int .i64 r3,.int .i64 r4,.int .i64 op,.int .u8 (fn:Nat),.int .i64 nn] rfl).alloc (w.heap.size+1) 27 [.int .u8 1,.int .u8 (vk:Nat),.int .i64 vn,.string s,.int .i64 0,.int .i64 0,.int .i64 0,.int .i64 0,.int .i64 0,.int .u8 0,.int .i64 0] (by simp))
 go_enter func157,ntmps157
 go_wp2_with fail
 generalize ((w.alloc (.cells #[.int .u8 1,.int .u8 (vk:Nat),.int .i64 vn,.string s,.int .i64 r1,.int .i64 r2,.int .i64 r3,.int .i64 r4,.int .i64 op,.int .u8 (fn:Nat),.int .i64 nn] 27)).alloc (.cells #[.int .u8 1,.int .u8 (vk:Nat),.int .i64 vn,.string s,.int .i64 0,.int .i64 0,.int .i64 0,.int .i64 0,.int .i64 0,.int .u8 0,.int .i64 0] 27))=W2 at H1 ⊢
 refine cM (cI vk vn s HS.out HL.out _) H1 fun w3 H5=>?_
 rw [HB.out]
 clear H1
 have F6:=sE H5
 go_wp2_with fail
 all_goals go_ret
 all_goals exact ⟨rfl,H5.out.bel⟩
theorem AA (vk:Nat) (vn r1 r2 r3 r4 op:Int) (fn:Nat) (nn:Int) (s:ByteArray) (hb:bl 2 0 0 r1 r2 r3 r4 0 0 0 2 (vk:Nat) vn r1 r2 r3 r4 op (fn:Nat) nn [] s.toList=false) (w:World) :
  Calls prog 157 #[.agg #[.int .u8 2,.int .u8 (vk:Nat),.int .i64 vn,.string s,.int .i64 r1,.int .i64 r2,.int .i64 r3,.int .i64 r4,.int .i64 op,.int .u8 (fn:Nat),.int .i64 nn]] w fun e w'=>e=.returned (.bool false)∧Below w.heap.size w w':=by
 have H1:=Lib.hid (((Ok.start w).alloc w.heap.size 27 [.int .u8 2,.int .u8 (vk:Nat),.int .i64 vn,.string s,.int .i64 r1,.int .i64 r2,.int .i64 r3,.int .i64 r4,.int .i64 op,.int .u8 (fn:Nat),.int .i64 nn] rfl).alloc (w.heap.size+1) 27 [.int .u8 2,.int .u8 0,.int .i64 0,.string ⟨#[]⟩,.int .i64 r1,.int .i64 r2,.int .i64 r3,.int .i64 r4,.int .i64 0,.int .u8 0,.int .i64 0] (by simp))
 go_enter func157,ntmps157
 go_upto_region 9 with fail
 generalize ((w.alloc (.cells #[.int .u8 2,.int .u8 (vk:Nat),.int .i64 vn,.string s,.int .i64 r1,.int .i64 r2,.int .i64 r3,.int .i64 r4,.int .i64 op,.int .u8 (fn:Nat),.int .i64 nn] 27)).alloc (.cells #[.int .u8 2,.int .u8 0,.int .i64 0,.string ⟨#[]⟩,.int .i64 r1,.int .i64 r2,.int .i64 r3,.int .i64 r4,.int .i64 0,.int .u8 0,.int .i64 0] 27))=W2 at H1 ⊢
 refine wp_region_held_drew (S:=fun W=>Ok w [af (w.heap.size+1) 27 [.int .u8 2,.int .u8 0,.int .i64 0,.string ⟨#[]⟩,.int .i64 r1,.int .i64 r2,.int .i64 r3,.int .i64 r4,.int .i64 0,.int .u8 0,.int .i64 0],af (w.heap.size) 27 [.int .u8 2,.int .u8 (vk:Nat),.int .i64 vn,.string s,.int .i64 r1,.int .i64 r2,.int .i64 r3,.int .i64 r4,.int .i64 op,.int .u8 (fn:Nat),.int .i64 nn]] W) (by kernel_rfl) H1.out.drew (fun hHeld => ?_)
 refine wt3 0 ?_
 refine wt3 1 ?_
 refine wt3 2 ?_
 refine wt3 3 ?_
 refine wsk 4 ?_
 refine wsk 5 ?_
 refine wsk 6 ?_
 refine wsk 7 ?_
 refine wt3 8 ?_
 refine wt3 9 ?_
 refine wsk 10 ?_
 refine wsk 11 ?_
 refine wsk 12 ?_
 refine wsk 13 ?_
 refine wsk 14 ?_
 refine wsk 15 ?_
 refine wsk 16 ?_
 refine wt3 17 ?_
 refine wt3 18 ?_
 refine wpAnyH_done (by kernel_rfl) ?_ _
 clear H1
 have H4:=Lib.hid hHeld
 clear hHeld
 go_wp2_with fail
 all_goals go_ret
 all_goals exact ⟨rfl,H4.out.bel⟩
theorem xC (vk:Nat) (vn r1 r2 r3 r4 op:Int) (fn:Nat) (nn:Int) (s:ByteArray) (hb:bl 2 0 0 r1 r2 r3 r4 0 0 0 2 (vk:Nat) vn r1 r2 r3 r4 op (fn:Nat) nn [] s.toList=true) (c:Int) (hc:bi ⟨r1,r2,r3,r4⟩=c) (hc0:(c == 0)=false) (w:World) :
  Calls prog 157 #[.agg #[.int .u8 2,.int .u8 (vk:Nat),.int .i64 vn,.string s,.int .i64 r1,.int .i64 r2,.int .i64 r3,.int .i64 r4,.int .i64 op,.int .u8 (fn:Nat),.int .i64 nn]] w fun e w'=>e=.returned (.bool false)∧Below w.heap.size w w':=by
 have HCE:=keep hc
 clear hc
 have H1:=Lib.hid (((Ok.start w).alloc w.heap.size 27 [.int .u8 2,.int .u8 (vk:Nat),.int .i64 vn,.string s,.int .i64 r1,.int .i64 r2,.int .i64 r3,.int .i64 r4,.int .i64 op,.int .u8 (fn:Nat),.int .i64 nn] rfl).alloc (w.heap.size+1) 27 [.int .u8 2,.int .u8 0,.int .i64 0,.string ⟨#[]⟩,.int .i64 r1,.int .i64 r2,.int .i64 r3,.int .i64 r4,.int .i64 0,.int .u8 0,.int .i64 0] (by simp))
 go_enter func157,ntmps157
 go_upto_region 9 with fail
 generalize ((w.alloc (.cells #[.int .u8 2,.int .u8 (vk:Nat),.int .i64 vn,.string s,.int .i64 r1,.int .i64 r2,.int .i64 r3,.int .i64 r4,.int .i64 op,.int .u8 (fn:Nat),.int .i64 nn] 27)).alloc (.cells #[.int .u8 2,.int .u8 0,.int .i64 0,.string ⟨#[]⟩,.int .i64 r1,.int .i64 r2,.int .i64 r3,.int .i64 r4,.int .i64 0,.int .u8 0,.int .i64 0] 27))=W2 at H1 ⊢
 refine wp_region_held_drew (S:=fun W=>Ok w [af (w.heap.size+1) 27 [.int .u8 2,.int .u8 0,.int .i64 0,.string ⟨#[]⟩,.int .i64 r1,.int .i64 r2,.int .i64 r3,.int .i64 r4,.int .i64 0,.int .u8 0,.int .i64 0],af (w.heap.size) 27 [.int .u8 2,.int .u8 (vk:Nat),.int .i64 vn,.string s,.int .i64 r1,.int .i64 r2,.int .i64 r3,.int .i64 r4,.int .i64 op,.int .u8 (fn:Nat),.int .i64 nn]] W) (by kernel_rfl) H1.out.drew (fun hHeld => ?_)
 refine wt3 0 ?_
 refine wt3 1 ?_
 refine wt3 2 ?_
 refine wt3 3 ?_
 refine wt3 4 ?_
 refine wt3 5 ?_
 refine wal 6 fun K hK => ?_
 go_simp
 refine (dA r1 r2 r3 r4 _).mono ?_
 rintro e w4 ⟨rfl,hb5⟩
 rw [HCE.out]
 go_wp2_with fail
 refine hK.out _ _ (hHeld.below hb5) (fun hHeld => ?_)
 clear hK K
 refine wn ?_
 refine wt3 7 ?_
 refine wt3 8 ?_
 refine wt3 9 ?_
 refine wsk 10 ?_
 refine wsk 11 ?_
 refine wsk 12 ?_
 refine wsk 13 ?_
 refine wsk 14 ?_
 refine wsk 15 ?_
 refine wsk 16 ?_
 refine wt3 17 ?_
 refine wt3 18 ?_
 refine wpAnyH_done (by kernel_rfl) ?_ _
 clear H1
 have H6:=Lib.hid hHeld
 clear hHeld
 go_wp2_with fail
 all_goals go_ret
 all_goals exact ⟨rfl,H6.out.bel⟩
theorem xD (vk:Nat) (vn r1 r2 op:Int) (fn:Nat) (nn:Int) (s:ByteArray) (hb:bl 2 0 0 r1 r2 r1 r2 0 0 0 2 (vk:Nat) vn r1 r2 r1 r2 op (fn:Nat) nn [] s.toList=true) (hc:bi ⟨r1,r2,r1,r2⟩=0) (w:World) :
  Calls prog 157 #[.agg #[.int .u8 2,.int .u8 (vk:Nat),.int .i64 vn,.string s,.int .i64 r1,.int .i64 r2,.int .i64 r1,.int .i64 r2,.int .i64 op,.int .u8 (fn:Nat),.int .i64 nn]] w fun e w'=>e=.returned (.bool true)∧Below w.heap.size w w':=by
 have HCE:=keep hc
 clear hc
 have H1:=Lib.hid (((Ok.start w).alloc w.heap.size 27 [.int .u8 2,.int .u8 (vk:Nat),.int .i64 vn,.string s,.int .i64 r1,.int .i64 r2,.int .i64 r1,.int .i64 r2,.int .i64 op,.int .u8 (fn:Nat),.int .i64 nn] rfl).alloc (w.heap.size+1) 27 [.int .u8 2,.int .u8 0,.int .i64 0,.string ⟨#[]⟩,.int .i64 r1,.int .i64 r2,.int .i64 r1,.int .i64 r2,.int .i64 0,.int .u8 0,.int .i64 0] (by simp))
 go_enter func157,ntmps157
 go_upto_region 9 with fail
 generalize ((w.alloc (.cells #[.int .u8 2,.int .u8 (vk:Nat),.int .i64 vn,.string s,.int .i64 r1,.int .i64 r2,.int .i64 r1,.int .i64 r2,.int .i64 op,.int .u8 (fn:Nat),.int .i64 nn] 27)).alloc (.cells #[.int .u8 2,.int .u8 0,.int .i64 0,.string ⟨#[]⟩,.int .i64 r1,.int .i64 r2,.int .i64 r1,.int .i64 r2,.int .i64 0,.int .u8 0,.int .i64 0] 27))=W2 at H1 ⊢
 refine wp_region_held_drew (S:=fun W=>Ok w [af (w.heap.size+1) 27 [.int .u8 2,.int .u8 0,.int .i64 0,.string ⟨#[]⟩,.int .i64 r1,.int .i64 r2,.int .i64 r1,.int .i64 r2,.int .i64 0,.int .u8 0,.int .i64 0],af (w.heap.size) 27 [.int .u8 2,.int .u8 (vk:Nat),.int .i64 vn,.string s,.int .i64 r1,.int .i64 r2,.int .i64 r1,.int .i64 r2,.int .i64 op,.int .u8 (fn:Nat),.int .i64 nn]] W) (by kernel_rfl) H1.out.drew (fun hHeld => ?_)
 refine wt3 0 ?_
 refine wt3 1 ?_
 refine wt3 2 ?_
 refine wt3 3 ?_
 refine wt3 4 ?_
 refine wt3 5 ?_
 refine wal 6 fun K hK => ?_
 go_simp
 refine (dA r1 r2 r1 r2 _).mono ?_
 rintro e w4 ⟨rfl,hb5⟩
 rw [HCE.out]
 go_wp2_with fail
 refine hK.out _ _ (hHeld.below hb5) (fun hHeld => ?_)
 clear hK K
 refine wn ?_
 refine wt3 7 ?_
 refine wt3 8 ?_
 refine wt3 9 ?_
 refine wt3 10 ?_
 refine wt3 11 ?_
 refine wt3 13 ?_
 refine wt3 14 ?_
 refine wt3 15 ?_
 refine wal 12 fun K hK => ?_
 go_simp
 refine (oT r1 r2 _).mono ?_
 rintro e w6 ⟨rfl,hb7⟩
 go_wp2_with fail
 refine hK.out _ _ (hHeld.below hb7) (fun hHeld => ?_)
 clear hK K
 refine wn ?_
 refine wt3 16 ?_
 refine wt3 17 ?_
 refine wt3 18 ?_
 refine wpAnyH_done (by kernel_rfl) ?_ _
 clear H1
 have H8:=Lib.hid hHeld
 clear hHeld
 go_wp2_with fail
 all_goals go_ret
 all_goals exact ⟨rfl,H8.out.bel⟩
theorem Az (vk:Nat) (vn r1 r2 r3 r4 op:Int) (fn:Nat) (nn:Int) (s:ByteArray) (hb:bl 2 0 0 r1 r2 r3 r4 0 0 0 2 (vk:Nat) vn r1 r2 r3 r4 op (fn:Nat) nn [] s.toList=true) (hc:bi ⟨r1,r2,r3,r4⟩=0) (hne:¬ (r1=r3∧r2=r4)) (w:World) :
  Calls prog 157 #[.agg #[.int .u8 2,.int .u8 (vk:Nat),.int .i64 vn,.string s,.int .i64 r1,.int .i64 r2,.int .i64 r3,.int .i64 r4,.int .i64 op,.int .u8 (fn:Nat),.int .i64 nn]] w fun e w'=>e=.returned (.bool false)∧Below w.heap.size w w':=by
 have HCE:=keep hc
 have HNE:=keep hne
 clear hc hne
 have H1:=Lib.hid (((Ok.start w).alloc w.heap.size 27 [.int .u8 2,.int .u8 (vk:Nat),.int .i64 vn,.string s,.int .i64 r1,.int .i64 r2,.int .i64 r3,.int .i64 r4,.int .i64 op,.int .u8 (fn:Nat),.int .i64 nn] rfl).alloc (w.heap.size+1) 27 [.int .u8 2,.int .u8 0,.int .i64 0,.string ⟨#[]⟩,.int .i64 r1,.int .i64 r2,.int .i64 r3,.int .i64 r4,.int .i64 0,.int .u8 0,.int .i64 0] (by simp))
 go_enter func157,ntmps157
 go_upto_region 9 with fail
 generalize ((w.alloc (.cells #[.int .u8 2,.int .u8 (vk:Nat),.int .i64 vn,.string s,.int .i64 r1,.int .i64 r2,.int .i64 r3,.int .i64 r4,.int .i64 op,.int .u8 (fn:Nat),.int .i64 nn] 27)).alloc (.cells #[.int .u8 2,.int .u8 0,.int .i64 0,.string ⟨#[]⟩,.int .i64 r1,.int .i64 r2,.int .i64 r3,.int .i64 r4,.int .i64 0,.int .u8 0,.int .i64 0] 27))=W2 at H1 ⊢
 refine wp_region_held_drew (S:=fun W=>Ok w [af (w.heap.size+1) 27 [.int .u8 2,.int .u8 0,.int .i64 0,.string ⟨#[]⟩,.int .i64 r1,.int .i64 r2,.int .i64 r3,.int .i64 r4,.int .i64 0,.int .u8 0,.int .i64 0],af (w.heap.size) 27 [.int .u8 2,.int .u8 (vk:Nat),.int .i64 vn,.string s,.int .i64 r1,.int .i64 r2,.int .i64 r3,.int .i64 r4,.int .i64 op,.int .u8 (fn:Nat),.int .i64 nn]] W) (by kernel_rfl) H1.out.drew (fun hHeld => ?_)
 refine wt3 0 ?_
 refine wt3 1 ?_
 refine wt3 2 ?_
 refine wt3 3 ?_
 refine wt3 4 ?_
 refine wt3 5 ?_
 refine wal 6 fun K hK => ?_
 go_simp
 refine (dA r1 r2 r3 r4 _).mono ?_
 rintro e w4 ⟨rfl,hb5⟩
 rw [HCE.out]
 go_wp2_with fail
 refine hK.out _ _ (hHeld.below hb5) (fun hHeld => ?_)
 clear hK K
 refine wn ?_
 refine wt3 7 ?_
 refine wt3 8 ?_
 refine wt3 9 ?_
 refine wt3 10 ?_
 refine wt3 11 ?_
 refine wt3 13 ?_
 refine wt3 14 ?_
 refine wt3 15 ?_
 refine wal 12 fun K hK => ?_
 go_simp
 refine (se r1 r2 r3 r4 HNE.out _).mono ?_
 rintro e w6 ⟨rfl,hb7⟩
 go_wp2_with fail
 refine hK.out _ _ (hHeld.below hb7) (fun hHeld => ?_)
 clear hK K
 refine wn ?_
 refine wt3 16 ?_
 refine wt3 17 ?_
 refine wt3 18 ?_
 refine wpAnyH_done (by kernel_rfl) ?_ _
 clear H1
 have H8:=Lib.hid hHeld
 clear hHeld
 go_wp2_with fail
 all_goals go_ret
 all_goals exact ⟨rfl,H8.out.bel⟩
theorem AC (vk:Nat) (vn r1 r2 r3 r4 op:Int) (fn:Nat) (nn:Int) (s:ByteArray) (hb:bl 3 0 0 r1 r2 r3 r4 0 0 0 3 (vk:Nat) vn r1 r2 r3 r4 op (fn:Nat) nn [] s.toList=false) (w:World) :
  Calls prog 157 #[.agg #[.int .u8 3,.int .u8 (vk:Nat),.int .i64 vn,.string s,.int .i64 r1,.int .i64 r2,.int .i64 r3,.int .i64 r4,.int .i64 op,.int .u8 (fn:Nat),.int .i64 nn]] w fun e w'=>e=.returned (.bool false)∧Below w.heap.size w w':=by
 have H1:=Lib.hid (((Ok.start w).alloc w.heap.size 27 [.int .u8 3,.int .u8 (vk:Nat),.int .i64 vn,.string s,.int .i64 r1,.int .i64 r2,.int .i64 r3,.int .i64 r4,.int .i64 op,.int .u8 (fn:Nat),.int .i64 nn] rfl).alloc (w.heap.size+1) 27 [.int .u8 3,.int .u8 0,.int .i64 0,.string ⟨#[]⟩,.int .i64 r1,.int .i64 r2,.int .i64 r3,.int .i64 r4,.int .i64 0,.int .u8 0,.int .i64 0] (by simp))
 go_enter func157,ntmps157
 go_upto_region 9 with fail
 generalize ((w.alloc (.cells #[.int .u8 3,.int .u8 (vk:Nat),.int .i64 vn,.string s,.int .i64 r1,.int .i64 r2,.int .i64 r3,.int .i64 r4,.int .i64 op,.int .u8 (fn:Nat),.int .i64 nn] 27)).alloc (.cells #[.int .u8 3,.int .u8 0,.int .i64 0,.string ⟨#[]⟩,.int .i64 r1,.int .i64 r2,.int .i64 r3,.int .i64 r4,.int .i64 0,.int .u8 0,.int .i64 0] 27))=W2 at H1 ⊢
 refine wp_region_held_drew (S:=fun W=>Ok w [af (w.heap.size+1) 27 [.int .u8 3,.int .u8 0,.int .i64 0,.string ⟨#[]⟩,.int .i64 r1,.int .i64 r2,.int .i64 r3,.int .i64 r4,.int .i64 0,.int .u8 0,.int .i64 0],af (w.heap.size) 27 [.int .u8 3,.int .u8 (vk:Nat),.int .i64 vn,.string s,.int .i64 r1,.int .i64 r2,.int .i64 r3,.int .i64 r4,.int .i64 op,.int .u8 (fn:Nat),.int .i64 nn]] W) (by kernel_rfl) H1.out.drew (fun hHeld => ?_)
 refine wt3 0 ?_
 refine wt3 1 ?_
 refine wt3 2 ?_
 refine wt3 3 ?_
 refine wsk 4 ?_
 refine wsk 5 ?_
 refine wsk 6 ?_
 refine wsk 7 ?_
 refine wt3 8 ?_
 refine wt3 9 ?_
 refine wsk 10 ?_
 refine wsk 11 ?_
 refine wsk 12 ?_
 refine wsk 13 ?_
 refine wsk 14 ?_
 refine wsk 15 ?_
 refine wsk 16 ?_
 refine wt3 17 ?_
 refine wt3 18 ?_
 refine wpAnyH_done (by kernel_rfl) ?_ _
 clear H1
 have H4:=Lib.hid hHeld
 clear hHeld
 go_wp2_with fail
 all_goals go_ret
 all_goals exact ⟨rfl,H4.out.bel⟩
theorem xE (vk:Nat) (vn r1 r2 r3 r4 op:Int) (fn:Nat) (nn:Int) (s:ByteArray) (hb:bl 3 0 0 r1 r2 r3 r4 0 0 0 3 (vk:Nat) vn r1 r2 r3 r4 op (fn:Nat) nn [] s.toList=true) (c:Int) (hc:bi ⟨r1,r2,r3,r4⟩=c) (hc0:(c == 0)=false) (w:World) :
  Calls prog 157 #[.agg #[.int .u8 3,.int .u8 (vk:Nat),.int .i64 vn,.string s,.int .i64 r1,.int .i64 r2,.int .i64 r3,.int .i64 r4,.int .i64 op,.int .u8 (fn:Nat),.int .i64 nn]] w fun e w'=>e=.returned (.bool false)∧Below w.heap.size w w':=by
 have HCE:=keep hc
 clear hc
 have H1:=Lib.hid (((Ok.start w).alloc w.heap.size 27 [.int .u8 3,.int .u8 (vk:Nat),.int .i64 vn,.string s,.int .i64 r1,.int .i64 r2,.int .i64 r3,.int .i64 r4,.int .i64 op,.int .u8 (fn:Nat),.int .i64 nn] rfl).alloc (w.heap.size+1) 27 [.int .u8 3,.int .u8 0,.int .i64 0,.string ⟨#[]⟩,.int .i64 r1,.int .i64 r2,.int .i64 r3,.int .i64 r4,.int .i64 0,.int .u8 0,.int .i64 0] (by simp))
 go_enter func157,ntmps157
 go_upto_region 9 with fail
 generalize ((w.alloc (.cells #[.int .u8 3,.int .u8 (vk:Nat),.int .i64 vn,.string s,.int .i64 r1,.int .i64 r2,.int .i64 r3,.int .i64 r4,.int .i64 op,.int .u8 (fn:Nat),.int .i64 nn] 27)).alloc (.cells #[.int .u8 3,.int .u8 0,.int .i64 0,.string ⟨#[]⟩,.int .i64 r1,.int .i64 r2,.int .i64 r3,.int .i64 r4,.int .i64 0,.int .u8 0,.int .i64 0] 27))=W2 at H1 ⊢
 refine wp_region_held_drew (S:=fun W=>Ok w [af (w.heap.size+1) 27 [.int .u8 3,.int .u8 0,.int .i64 0,.string ⟨#[]⟩,.int .i64 r1,.int .i64 r2,.int .i64 r3,.int .i64 r4,.int .i64 0,.int .u8 0,.int .i64 0],af (w.heap.size) 27 [.int .u8 3,.int .u8 (vk:Nat),.int .i64 vn,.string s,.int .i64 r1,.int .i64 r2,.int .i64 r3,.int .i64 r4,.int .i64 op,.int .u8 (fn:Nat),.int .i64 nn]] W) (by kernel_rfl) H1.out.drew (fun hHeld => ?_)
 refine wt3 0 ?_
 refine wt3 1 ?_
 refine wt3 2 ?_
 refine wt3 3 ?_
 refine wt3 4 ?_
 refine wt3 5 ?_
 refine wal 6 fun K hK => ?_
 go_simp
 refine (dA r1 r2 r3 r4 _).mono ?_
 rintro e w4 ⟨rfl,hb5⟩
 rw [HCE.out]
 go_wp2_with fail
 refine hK.out _ _ (hHeld.below hb5) (fun hHeld => ?_)
 clear hK K
 refine wn ?_
 refine wt3 7 ?_
 refine wt3 8 ?_
 refine wt3 9 ?_
 refine wsk 10 ?_
 refine wsk 11 ?_
 refine wsk 12 ?_
 refine wsk 13 ?_
 refine wsk 14 ?_
 refine wsk 15 ?_
 refine wsk 16 ?_
 refine wt3 17 ?_
 refine wt3 18 ?_
 refine wpAnyH_done (by kernel_rfl) ?_ _
 clear H1
 have H6:=Lib.hid hHeld
 clear hHeld
 go_wp2_with fail
 all_goals go_ret
 all_goals exact ⟨rfl,H6.out.bel⟩
theorem xF (vk:Nat) (vn r1 r2 op:Int) (fn:Nat) (nn:Int) (s:ByteArray) (hb:bl 3 0 0 r1 r2 r1 r2 0 0 0 3 (vk:Nat) vn r1 r2 r1 r2 op (fn:Nat) nn [] s.toList=true) (hc:bi ⟨r1,r2,r1,r2⟩=0) (w:World) :
  Calls prog 157 #[.agg #[.int .u8 3,.int .u8 (vk:Nat),.int .i64 vn,.string s,.int .i64 r1,.int .i64 r2,.int .i64 r1,.int .i64 r2,.int .i64 op,.int .u8 (fn:Nat),.int .i64 nn]] w fun e w'=>e=.returned (.bool false)∧Below w.heap.size w w':=by
 have HCE:=keep hc
 clear hc
 have H1:=Lib.hid (((Ok.start w).alloc w.heap.size 27 [.int .u8 3,.int .u8 (vk:Nat),.int .i64 vn,.string s,.int .i64 r1,.int .i64 r2,.int .i64 r1,.int .i64 r2,.int .i64 op,.int .u8 (fn:Nat),.int .i64 nn] rfl).alloc (w.heap.size+1) 27 [.int .u8 3,.int .u8 0,.int .i64 0,.string ⟨#[]⟩,.int .i64 r1,.int .i64 r2,.int .i64 r1,.int .i64 r2,.int .i64 0,.int .u8 0,.int .i64 0] (by simp))
 go_enter func157,ntmps157
 go_upto_region 9 with fail
 generalize ((w.alloc (.cells #[.int .u8 3,.int .u8 (vk:Nat),.int .i64 vn,.string s,.int .i64 r1,.int .i64 r2,.int .i64 r1,.int .i64 r2,.int .i64 op,.int .u8 (fn:Nat),.int .i64 nn] 27)).alloc (.cells #[.int .u8 3,.int .u8 0,.int .i64 0,.string ⟨#[]⟩,.int .i64 r1,.int .i64 r2,.int .i64 r1,.int .i64 r2,.int .i64 0,.int .u8 0,.int .i64 0] 27))=W2 at H1 ⊢
 refine wp_region_held_drew (S:=fun W=>Ok w [af (w.heap.size+1) 27 [.int .u8 3,.int .u8 0,.int .i64 0,.string ⟨#[]⟩,.int .i64 r1,.int .i64 r2,.int .i64 r1,.int .i64 r2,.int .i64 0,.int .u8 0,.int .i64 0],af (w.heap.size) 27 [.int .u8 3,.int .u8 (vk:Nat),.int .i64 vn,.string s,.int .i64 r1,.int .i64 r2,.int .i64 r1,.int .i64 r2,.int .i64 op,.int .u8 (fn:Nat),.int .i64 nn]] W) (by kernel_rfl) H1.out.drew (fun hHeld => ?_)
 refine wt3 0 ?_
 refine wt3 1 ?_
 refine wt3 2 ?_
 refine wt3 3 ?_
 refine wt3 4 ?_
 refine wt3 5 ?_
 refine wal 6 fun K hK => ?_
 go_simp
 refine (dA r1 r2 r1 r2 _).mono ?_
 rintro e w4 ⟨rfl,hb5⟩
 rw [HCE.out]
 go_wp2_with fail
 refine hK.out _ _ (hHeld.below hb5) (fun hHeld => ?_)
 clear hK K
 refine wn ?_
 refine wt3 7 ?_
 refine wt3 8 ?_
 refine wt3 9 ?_
 refine wt3 10 ?_
 refine wt3 11 ?_
 refine wt3 13 ?_
 refine wt3 14 ?_
 refine wt3 15 ?_
 refine wal 12 fun K hK => ?_
 go_simp
 refine (oT r1 r2 _).mono ?_
 rintro e w6 ⟨rfl,hb7⟩
 go_wp2_with fail
 refine hK.out _ _ (hHeld.below hb7) (fun hHeld => ?_)
 clear hK K
 refine wn ?_
 refine wt3 16 ?_
 refine wt3 17 ?_
 refine wt3 18 ?_
 refine wpAnyH_done (by kernel_rfl) ?_ _
 clear H1
 have H8:=Lib.hid hHeld
 clear hHeld
 go_wp2_with fail
 all_goals go_ret
 all_goals exact ⟨rfl,H8.out.bel⟩
theorem AB (vk:Nat) (vn r1 r2 r3 r4 op:Int) (fn:Nat) (nn:Int) (s:ByteArray) (hb:bl 3 0 0 r1 r2 r3 r4 0 0 0 3 (vk:Nat) vn r1 r2 r3 r4 op (fn:Nat) nn [] s.toList=true) (hc:bi ⟨r1,r2,r3,r4⟩=0) (hne:¬ (r1=r3∧r2=r4)) (w:World) :
  Calls prog 157 #[.agg #[.int .u8 3,.int .u8 (vk:Nat),.int .i64 vn,.string s,.int .i64 r1,.int .i64 r2,.int .i64 r3,.int .i64 r4,.int .i64 op,.int .u8 (fn:Nat),.int .i64 nn]] w fun e w'=>e=.returned (.bool true)∧Below w.heap.size w w':=by
 have HCE:=keep hc
 have HNE:=keep hne
 clear hc hne
 have H1:=Lib.hid (((Ok.start w).alloc w.heap.size 27 [.int .u8 3,.int .u8 (vk:Nat),.int .i64 vn,.string s,.int .i64 r1,.int .i64 r2,.int .i64 r3,.int .i64 r4,.int .i64 op,.int .u8 (fn:Nat),.int .i64 nn] rfl).alloc (w.heap.size+1) 27 [.int .u8 3,.int .u8 0,.int .i64 0,.string ⟨#[]⟩,.int .i64 r1,.int .i64 r2,.int .i64 r3,.int .i64 r4,.int .i64 0,.int .u8 0,.int .i64 0] (by simp))
 go_enter func157,ntmps157
 go_upto_region 9 with fail
 generalize ((w.alloc (.cells #[.int .u8 3,.int .u8 (vk:Nat),.int .i64 vn,.string s,.int .i64 r1,.int .i64 r2,.int .i64 r3,.int .i64 r4,.int .i64 op,.int .u8 (fn:Nat),.int .i64 nn] 27)).alloc (.cells #[.int .u8 3,.int .u8 0,.int .i64 0,.string ⟨#[]⟩,.int .i64 r1,.int .i64 r2,.int .i64 r3,.int .i64 r4,.int .i64 0,.int .u8 0,.int .i64 0] 27))=W2 at H1 ⊢
 refine wp_region_held_drew (S:=fun W=>Ok w [af (w.heap.size+1) 27 [.int .u8 3,.int .u8 0,.int .i64 0,.string ⟨#[]⟩,.int .i64 r1,.int .i64 r2,.int .i64 r3,.int .i64 r4,.int .i64 0,.int .u8 0,.int .i64 0],af (w.heap.size) 27 [.int .u8 3,.int .u8 (vk:Nat),.int .i64 vn,.string s,.int .i64 r1,.int .i64 r2,.int .i64 r3,.int .i64 r4,.int .i64 op,.int .u8 (fn:Nat),.int .i64 nn]] W) (by kernel_rfl) H1.out.drew (fun hHeld => ?_)
 refine wt3 0 ?_
 refine wt3 1 ?_
 refine wt3 2 ?_
 refine wt3 3 ?_
 refine wt3 4 ?_
 refine wt3 5 ?_
 refine wal 6 fun K hK => ?_
 go_simp
 refine (dA r1 r2 r3 r4 _).mono ?_
 rintro e w4 ⟨rfl,hb5⟩
 rw [HCE.out]
 go_wp2_with fail
 refine hK.out _ _ (hHeld.below hb5) (fun hHeld => ?_)
 clear hK K
 refine wn ?_
 refine wt3 7 ?_
 refine wt3 8 ?_
 refine wt3 9 ?_
 refine wt3 10 ?_
 refine wt3 11 ?_
 refine wt3 13 ?_
 refine wt3 14 ?_
 refine wt3 15 ?_
 refine wal 12 fun K hK => ?_
 go_simp
 refine (se r1 r2 r3 r4 HNE.out _).mono ?_
 rintro e w6 ⟨rfl,hb7⟩
 go_wp2_with fail
 refine hK.out _ _ (hHeld.below hb7) (fun hHeld => ?_)
 clear hK K
 refine wn ?_
 refine wt3 16 ?_
 refine wt3 17 ?_
 refine wt3 18 ?_
 refine wpAnyH_done (by kernel_rfl) ?_ _
 clear H1
 have H8:=Lib.hid hHeld
 clear hHeld
 go_wp2_with fail
 all_goals go_ret
 all_goals exact ⟨rfl,H8.out.bel⟩
theorem fb4 (vk:Nat) (vn r1 r2 r3 r4 op:Int) (fn:Nat) (nn:Int) (s:ByteArray) (B:Bool) (hb:bl 4 0 0 0 0 0 0 0 0 0 4 (vk:Nat) vn r1 r2 r3 r4 op (fn:Nat) nn [] s.toList=B) (w:World) :
  Calls prog 157 #[.agg #[.int .u8 4,.int .u8 (vk:Nat),.int .i64 vn,.string s,.int .i64 r1,.int .i64 r2,.int .i64 r3,.int .i64 r4,.int .i64 op,.int .u8 (fn:Nat),.int .i64 nn]] w fun e w'=>e=.returned (.bool B)∧Below w.heap.size w w':=by
 have H1:=Lib.hid (((Ok.start w).alloc w.heap.size 27 [.int .u8 4,.int .u8 (vk:Nat),.int .i64 vn,.string s,.int .i64 r1,.int .i64 r2,.int .i64 r3,.int .i64 r4,.int .i64 op,.int .u8 (fn:Nat),.int .i64 nn] rfl).alloc (w.heap.size+1) 27 [.int .u8 4,.int .u8 0,.int .i64 0,.string ⟨#[]⟩,.int .i64 0,.int .i64 0,.int .i64 0,.int .i64 0,.int .i64 0,.int .u8 0,.int .i64 0] (by simp))
 go_enter func157,ntmps157
 go_wp2_with fail
 generalize ((w.alloc (.cells #[.int .u8 4,.int .u8 (vk:Nat),.int .i64 vn,.string s,.int .i64 r1,.int .i64 r2,.int .i64 r3,.int .i64 r4,.int .i64 op,.int .u8 (fn:Nat),.int .i64 nn] 27)).alloc (.cells #[.int .u8 4,.int .u8 0,.int .i64 0,.string ⟨#[]⟩,.int .i64 0,.int .i64 0,.int .i64 0,.int .i64 0,.int .i64 0,.int .u8 0,.int .i64 0] 27))=W2 at H1 ⊢
 all_goals go_ret
 all_goals exact ⟨rfl,H1.out.bel⟩
theorem fb5 (vk:Nat) (vn r1 r2 r3 r4 op:Int) (fn:Nat) (nn:Int) (s:ByteArray) (B:Bool) (hb:bl 5 0 0 0 0 0 0 0 0 0 5 (vk:Nat) vn r1 r2 r3 r4 op (fn:Nat) nn [] s.toList=B) (w:World) :
  Calls prog 157 #[.agg #[.int .u8 5,.int .u8 (vk:Nat),.int .i64 vn,.string s,.int .i64 r1,.int .i64 r2,.int .i64 r3,.int .i64 r4,.int .i64 op,.int .u8 (fn:Nat),.int .i64 nn]] w fun e w'=>e=.returned (.bool B)∧Below w.heap.size w w':=by
 have H1:=Lib.hid (((Ok.start w).alloc w.heap.size 27 [.int .u8 5,.int .u8 (vk:Nat),.int .i64 vn,.string s,.int .i64 r1,.int .i64 r2,.int .i64 r3,.int .i64 r4,.int .i64 op,.int .u8 (fn:Nat),.int .i64 nn] rfl).alloc (w.heap.size+1) 27 [.int .u8 5,.int .u8 0,.int .i64 0,.string ⟨#[]⟩,.int .i64 0,.int .i64 0,.int .i64 0,.int .i64 0,.int .i64 0,.int .u8 0,.int .i64 0] (by simp))
 go_enter func157,ntmps157
 go_wp2_with fail
 generalize ((w.alloc (.cells #[.int .u8 5,.int .u8 (vk:Nat),.int .i64 vn,.string s,.int .i64 r1,.int .i64 r2,.int .i64 r3,.int .i64 r4,.int .i64 op,.int .u8 (fn:Nat),.int .i64 nn] 27)).alloc (.cells #[.int .u8 5,.int .u8 0,.int .i64 0,.string ⟨#[]⟩,.int .i64 0,.int .i64 0,.int .i64 0,.int .i64 0,.int .i64 0,.int .u8 0,.int .i64 0] 27))=W2 at H1 ⊢
 all_goals go_ret
 all_goals exact ⟨rfl,H1.out.bel⟩
theorem AE (vk:Nat) (vn r1 r2 r3 r4 op:Int) (fn:Nat) (nn:Int) (s:ByteArray) (hb:bl 6 0 0 0 0 0 0 op 0 0 6 (vk:Nat) vn r1 r2 r3 r4 op (fn:Nat) nn [] s.toList=false) (w:World) :
  Calls prog 157 #[.agg #[.int .u8 6,.int .u8 (vk:Nat),.int .i64 vn,.string s,.int .i64 r1,.int .i64 r2,.int .i64 r3,.int .i64 r4,.int .i64 op,.int .u8 (fn:Nat),.int .i64 nn]] w fun e w'=>e=.returned (.bool false)∧Below w.heap.size w w':=by
 have H1:=Lib.hid (((Ok.start w).alloc w.heap.size 27 [.int .u8 6,.int .u8 (vk:Nat),.int .i64 vn,.string s,.int .i64 r1,.int .i64 r2,.int .i64 r3,.int .i64 r4,.int .i64 op,.int .u8 (fn:Nat),.int .i64 nn] rfl).alloc (w.heap.size+1) 27 [.int .u8 6,.int .u8 0,.int .i64 0,.string ⟨#[]⟩,.int .i64 0,.int .i64 0,.int .i64 0,.int .i64 0,.int .i64 op,.int .u8 0,.int .i64 0] (by simp))
 go_enter func157,ntmps157
 go_wp2_with fail
 generalize ((w.alloc (.cells #[.int .u8 6,.int .u8 (vk:Nat),.int .i64 vn,.string s,.int .i64 r1,.int .i64 r2,.int .i64 r3,.int .i64 r4,.int .i64 op,.int .u8 (fn:Nat),.int .i64 nn] 27)).alloc (.cells #[.int .u8 6,.int .u8 0,.int .i64 0,.string ⟨#[]⟩,.int .i64 0,.int .i64 0,.int .i64 0,.int .i64 0,.int .i64 op,.int .u8 0,.int .i64 0] 27))=W2 at H1 ⊢
 all_goals go_ret
 all_goals exact ⟨rfl,H1.out.bel⟩
theorem AD (vk:Nat) (vn r1 r2 r3 r4 op:Int) (fn:Nat) (nn:Int) (s:ByteArray) (hb:bl 6 0 0 0 0 0 0 op 0 0 6 (vk:Nat) vn r1 r2 r3 r4 op (fn:Nat) nn [] s.toList=true) (h1:¬ 1≤op) (w:World) :
  Calls prog 157 #[.agg #[.int .u8 6,.int .u8 (vk:Nat),.int .i64 vn,.string s,.int .i64 r1,.int .i64 r2,.int .i64 r3,.int .i64 r4,.int .i64 op,.int .u8 (fn:Nat),.int .i64 nn]] w fun e w'=>e=.returned (.bool false)∧Below w.heap.size w w':=by
 have H1:=Lib.hid (((Ok.start w).alloc w.heap.size 27 [.int .u8 6,.int .u8 (vk:Nat),.int .i64 vn,.string s,.int .i64 r1,.int .i64 r2,.int .i64 r3,.int .i64 r4,.int .i64 op,.int .u8 (fn:Nat),.int .i64 nn] rfl).alloc (w.heap.size+1) 27 [.int .u8 6,.int .u8 0,.int .i64 0,.string ⟨#[]⟩,.int .i64 0,.int .i64 0,.int .i64 0,.int .i64 0,.int .i64 op,.int .u8 0,.int .i64 0] (by simp))
 go_enter func157,ntmps157
 go_wp2_with fail
 generalize ((w.alloc (.cells #[.int .u8 6,.int .u8 (vk:Nat),.int .i64 vn,.string s,.int .i64 r1,.int .i64 r2,.int .i64 r3,.int .i64 r4,.int .i64 op,.int .u8 (fn:Nat),.int .i64 nn] 27)).alloc (.cells #[.int .u8 6,.int .u8 0,.int .i64 0,.string ⟨#[]⟩,.int .i64 0,.int .i64 0,.int .i64 0,.int .i64 0,.int .i64 op,.int .u8 0,.int .i64 0] 27))=W2 at H1 ⊢
 all_goals go_ret
 all_goals exact ⟨rfl,H1.out.bel⟩
theorem xG (vk:Nat) (vn r1 r2 r3 r4 op:Int) (fn:Nat) (nn:Int) (s:ByteArray) (hb:bl 6 0 0 0 0 0 0 op 0 0 6 (vk:Nat) vn r1 r2 r3 r4 op (fn:Nat) nn [] s.toList=true) (h1:1≤op) (B:Bool) (h2:decide (op≤12)=B) (w:World) :
  Calls prog 157 #[.agg #[.int .u8 6,.int .u8 (vk:Nat),.int .i64 vn,.string s,.int .i64 r1,.int .i64 r2,.int .i64 r3,.int .i64 r4,.int .i64 op,.int .u8 (fn:Nat),.int .i64 nn]] w fun e w'=>e=.returned (.bool B)∧Below w.heap.size w w':=by
 have H1:=Lib.hid (((Ok.start w).alloc w.heap.size 27 [.int .u8 6,.int .u8 (vk:Nat),.int .i64 vn,.string s,.int .i64 r1,.int .i64 r2,.int .i64 r3,.int .i64 r4,.int .i64 op,.int .u8 (fn:Nat),.int .i64 nn] rfl).alloc (w.heap.size+1) 27 [.int .u8 6,.int .u8 0,.int .i64 0,.string ⟨#[]⟩,.int .i64 0,.int .i64 0,.int .i64 0,.int .i64 0,.int .i64 op,.int .u8 0,.int .i64 0] (by simp))
 go_enter func157,ntmps157
 go_wp2_with fail
 generalize ((w.alloc (.cells #[.int .u8 6,.int .u8 (vk:Nat),.int .i64 vn,.string s,.int .i64 r1,.int .i64 r2,.int .i64 r3,.int .i64 r4,.int .i64 op,.int .u8 (fn:Nat),.int .i64 nn] 27)).alloc (.cells #[.int .u8 6,.int .u8 0,.int .i64 0,.string ⟨#[]⟩,.int .i64 0,.int .i64 0,.int .i64 0,.int .i64 0,.int .i64 op,.int .u8 0,.int .i64 0] 27))=W2 at H1 ⊢
 all_goals go_ret
 all_goals exact ⟨rfl,H1.out.bel⟩
theorem uR (k:Nat) (vk:Nat) (vn r1 r2 r3 r4 op:Int) (fn:Nat) (nn:Int) (s:ByteArray) (h1:((k:Int) == 1)=false) (h2:((k:Int) == 2)=false) (h3:((k:Int) == 3)=false) (h4:((k:Int) == 4)=false) (h5:((k:Int) == 5)=false) (h6:((k:Int) == 6)=false) (h7:((k:Int) == 7)=false) (w:World) :
  Calls prog 157 #[.agg #[.int .u8 (k:Nat),.int .u8 (vk:Nat),.int .i64 vn,.string s,.int .i64 r1,.int .i64 r2,.int .i64 r3,.int .i64 r4,.int .i64 op,.int .u8 (fn:Nat),.int .i64 nn]] w fun e w'=>e=.returned (.bool false)∧Below w.heap.size w w':=by
 have H1:=Lib.hid (((Ok.start w).alloc w.heap.size 27 [.int .u8 (k:Nat),.int .u8 (vk:Nat),.int .i64 vn,.string s,.int .i64 r1,.int .i64 r2,.int .i64 r3,.int .i64 r4,.int .i64 op,.int .u8 (fn:Nat),.int .i64 nn] rfl).alloc (w.heap.size+1) 27 [.int .u8 (k:Nat),.int .u8 0,.int .i64 0,.string ⟨#[]⟩,.int .i64 0,.int .i64 0,.int .i64 0,.int .i64 0,.int .i64 0,.int .u8 0,.int .i64 0] (by simp))
 go_enter func157,ntmps157
 go_wp2_with fail
 generalize ((w.alloc (.cells #[.int .u8 (k:Nat),.int .u8 (vk:Nat),.int .i64 vn,.string s,.int .i64 r1,.int .i64 r2,.int .i64 r3,.int .i64 r4,.int .i64 op,.int .u8 (fn:Nat),.int .i64 nn] 27)).alloc (.cells #[.int .u8 (k:Nat),.int .u8 0,.int .i64 0,.string ⟨#[]⟩,.int .i64 0,.int .i64 0,.int .i64 0,.int .i64 0,.int .i64 0,.int .u8 0,.int .i64 0] 27))=W2 at H1 ⊢
 all_goals go_ret
 all_goals exact ⟨rfl,H1.out.bel⟩
theorem AF (vk:Nat) (vn r1 r2 r3 r4 op:Int) (fn:Nat) (nn:Int) (s:ByteArray) (hb:bl 7 0 0 0 0 0 0 0 (fn:Nat) nn 7 (vk:Nat) vn r1 r2 r3 r4 op (fn:Nat) nn [] s.toList=false) (w:World) :
  Calls prog 157 #[.agg #[.int .u8 7,.int .u8 (vk:Nat),.int .i64 vn,.string s,.int .i64 r1,.int .i64 r2,.int .i64 r3,.int .i64 r4,.int .i64 op,.int .u8 (fn:Nat),.int .i64 nn]] w fun e w'=>e=.returned (.bool false)∧Below w.heap.size w w':=by
 have H1:=Lib.hid (((Ok.start w).alloc w.heap.size 27 [.int .u8 7,.int .u8 (vk:Nat),.int .i64 vn,.string s,.int .i64 r1,.int .i64 r2,.int .i64 r3,.int .i64 r4,.int .i64 op,.int .u8 (fn:Nat),.int .i64 nn] rfl).var (w.heap.size+1) 27 [.int .u8 7,.int .u8 0,.int .i64 0,.string ⟨#[]⟩,.int .i64 0,.int .i64 0,.int .i64 0,.int .i64 0,.int .i64 0,.int .u8 0,.int .i64 0] (by simp))
 go_enter func157,ntmps157
 go_upto_region 17 with fail
 generalize ((w.alloc (.cells #[.int .u8 7,.int .u8 (vk:Nat),.int .i64 vn,.string s,.int .i64 r1,.int .i64 r2,.int .i64 r3,.int .i64 r4,.int .i64 op,.int .u8 (fn:Nat),.int .i64 nn] 27)).alloc (.cells #[.int .u8 7,.int .u8 0,.int .i64 0,.string ⟨#[]⟩,.int .i64 0,.int .i64 0,.int .i64 0,.int .i64 0,.int .i64 0,.int .u8 0,.int .i64 0] 27))=W2 at H1 ⊢
 have F3:=sE H1
 go_region
 clear F3
 have hfar:∀ x∈[af (w.heap.size) 27 [.int .u8 7,.int .u8 (vk:Nat),.int .i64 vn,.string s,.int .i64 r1,.int .i64 r2,.int .i64 r3,.int .i64 r4,.int .i64 op,.int .u8 (fn:Nat),.int .i64 nn]],x.far (some (w.heap.size+1)):=by
  intro x hx
  simp at hx
  subst hx
  show some w.heap.size≠some (w.heap.size+1)
  simp
 have H5:=Lib.hid (((H1.out.set_ (i:=9) (u:=.int .u8 (fn:Nat)) (by omega) hfar).set_ (i:=10) (u:=.int .i64 nn) (by omega) hfar).drew)
 clear hfar H1
 have H6:Hid (Ok w [ah (w.heap.size+1) 27 [.int .u8 7,.int .u8 0,.int .i64 0,.string ⟨#[]⟩,.int .i64 0,.int .i64 0,.int .i64 0,.int .i64 0,.int .i64 0,.int .u8 (fn:Nat),.int .i64 nn],af (w.heap.size) 27 [.int .u8 7,.int .u8 (vk:Nat),.int .i64 vn,.string s,.int .i64 r1,.int .i64 r2,.int .i64 r3,.int .i64 r4,.int .i64 op,.int .u8 (fn:Nat),.int .i64 nn]] (((W2.setCell ⟨w.heap.size+1,9,none⟩ (.int .u8 (fn:Nat))).setCell ⟨w.heap.size+1,10,none⟩ (.int .i64 nn)).drew)):=H5
 clear H5
 generalize ((W2.setCell ⟨w.heap.size+1,9,none⟩ (.int .u8 (fn:Nat))).setCell ⟨w.heap.size+1,10,none⟩ (.int .i64 nn)).drew=W9 at H6 ⊢
 have F4:=sE H6
 go_wp2_with fail
 all_goals go_ret
 all_goals exact ⟨rfl,H6.out.bel⟩
theorem xH (vk:Nat) (vn r1 r2 r3 r4 op:Int) (fn:Nat) (nn:Int) (s:ByteArray) (hb:bl 7 0 0 0 0 0 0 0 (fn:Nat) nn 7 (vk:Nat) vn r1 r2 r3 r4 op (fn:Nat) nn [] s.toList=true) (B:Bool) (h0:decide (0≤nn)=B) (w:World) :
  Calls prog 157 #[.agg #[.int .u8 7,.int .u8 (vk:Nat),.int .i64 vn,.string s,.int .i64 r1,.int .i64 r2,.int .i64 r3,.int .i64 r4,.int .i64 op,.int .u8 (fn:Nat),.int .i64 nn]] w fun e w'=>e=.returned (.bool B)∧Below w.heap.size w w':=by
 have H1:=Lib.hid (((Ok.start w).alloc w.heap.size 27 [.int .u8 7,.int .u8 (vk:Nat),.int .i64 vn,.string s,.int .i64 r1,.int .i64 r2,.int .i64 r3,.int .i64 r4,.int .i64 op,.int .u8 (fn:Nat),.int .i64 nn] rfl).var (w.heap.size+1) 27 [.int .u8 7,.int .u8 0,.int .i64 0,.string ⟨#[]⟩,.int .i64 0,.int .i64 0,.int .i64 0,.int .i64 0,.int .i64 0,.int .u8 0,.int .i64 0] (by simp))
 go_enter func157,ntmps157
 go_upto_region 17 with fail
 generalize ((w.alloc (.cells #[.int .u8 7,.int .u8 (vk:Nat),.int .i64 vn,.string s,.int .i64 r1,.int .i64 r2,.int .i64 r3,.int .i64 r4,.int .i64 op,.int .u8 (fn:Nat),.int .i64 nn] 27)).alloc (.cells #[.int .u8 7,.int .u8 0,.int .i64 0,.string ⟨#[]⟩,.int .i64 0,.int .i64 0,.int .i64 0,.int .i64 0,.int .i64 0,.int .u8 0,.int .i64 0] 27))=W2 at H1 ⊢
 have F3:=sE H1
 go_region
 clear F3
 have hfar:∀ x∈[af (w.heap.size) 27 [.int .u8 7,.int .u8 (vk:Nat),.int .i64 vn,.string s,.int .i64 r1,.int .i64 r2,.int .i64 r3,.int .i64 r4,.int .i64 op,.int .u8 (fn:Nat),.int .i64 nn]],x.far (some (w.heap.size+1)):=by
  intro x hx
  simp at hx
  subst hx
  show some w.heap.size≠some (w.heap.size+1)
  simp
 have H5:=Lib.hid (((H1.out.set_ (i:=9) (u:=.int .u8 (fn:Nat)) (by omega) hfar).set_ (i:=10) (u:=.int .i64 nn) (by omega) hfar).drew)
 clear hfar H1
 have H6:Hid (Ok w [ah (w.heap.size+1) 27 [.int .u8 7,.int .u8 0,.int .i64 0,.string ⟨#[]⟩,.int .i64 0,.int .i64 0,.int .i64 0,.int .i64 0,.int .i64 0,.int .u8 (fn:Nat),.int .i64 nn],af (w.heap.size) 27 [.int .u8 7,.int .u8 (vk:Nat),.int .i64 vn,.string s,.int .i64 r1,.int .i64 r2,.int .i64 r3,.int .i64 r4,.int .i64 op,.int .u8 (fn:Nat),.int .i64 nn]] (((W2.setCell ⟨w.heap.size+1,9,none⟩ (.int .u8 (fn:Nat))).setCell ⟨w.heap.size+1,10,none⟩ (.int .i64 nn)).drew)):=H5
 clear H5
 generalize ((W2.setCell ⟨w.heap.size+1,9,none⟩ (.int .u8 (fn:Nat))).setCell ⟨w.heap.size+1,10,none⟩ (.int .i64 nn)).drew=W9 at H6 ⊢
 have F4:=sE H6
 go_wp2_with fail
 all_goals go_ret
 all_goals exact ⟨rfl,H6.out.bel⟩
open Classical in
noncomputable def okD (a:NdA):Bool:=decide (okA a)
open Classical in
theorem d6 {a:NdA} (h:okA a):okD a=true:=decide_eq_true h
open Classical in
theorem dh {a:NdA} (h:¬ okA a):okD a=false:=decide_eq_false h
theorem dI (a:NdA) (hs:a.vt.length≤4611686018427387904) (hlo : -9223372036854775808≤a.vn) (w:World) :
  Calls prog 157 #[aA a] w fun e w'=>e=.returned (.bool (okD a))∧Below w.heap.size w w':=by
 obtain ⟨k,vk,vn,vt,⟨r1,r2,r3,r4⟩,op,fn,nn⟩:=a
 have hs:vt.length≤4611686018427387904:=hs
 have hlo : -9223372036854775808≤vn:=hlo
 have hsz:(⟨vt.toArray⟩:ByteArray).size≤4611686018427387904:=by show vt.toArray.size≤_; simpa using hs
 have hl:(⟨vt.toArray⟩:ByteArray).toList=vt:=ByteArray.toList_mk vt
 have nope:∀ {x j:Nat},x≠j→((x:Int) == (j:Int))=false:=by intro x j h; simp; omega
 have nat0:∀ {x:Nat},(x:Int)=0→x=0:=by intro x h; omega
 have hce:∀ r:R4,aG r≠true→(bi r == 0)=false:=by
  intro r h
  unfold bi
  rw [if_neg h]; rfl
 by_cases k1:k=1
 ·subst k1
  cases hb:bl 1 vk vn 0 0 0 0 0 0 0 1 vk vn r1 r2 r3 r4 op fn nn vt vt with
  | true =>
   obtain ⟨-,-,-,-,b1,b2,b3,b4,b5,b6,b7⟩:=(aS ..).1 hb
   have e:okD ⟨1,vk,vn,vt,⟨r1,r2,r3,r4⟩,op,fn,nn⟩=mA vk vn vt:=by
    by_cases hg:dF vk vn vt
    ·rw [dG hg]
     refine d6 (.inl ⟨rfl,hg,?_,b5.symm,nat0 b6.symm,b7.symm⟩)
     show (⟨r1,r2,r3,r4⟩:R4)=R4.zero
     rw [← b1,← b2,← b3,← b4]; rfl
    rw [iz hg]
    exact dh fun g=>hg ((aU rfl g).1 rfl).1
   rw [e]
   exact xB vk vn r1 r2 r3 r4 op fn nn ⟨vt.toArray⟩ hsz hlo _ rfl (by rw [hl]; exact hb) w
  | false =>
   rw [dh fun g=>by
    obtain ⟨-,b1,b2,b3,b4⟩:=(aU rfl g).1 rfl
    have b1:(⟨r1,r2,r3,r4⟩:R4)=⟨0,0,0,0⟩:=b1
    injection b1 with c1 c2 c3 c4
    have b3:fn=0:=b3
    have:=(aS 1 vk vn 0 0 0 0 0 0 0 1 vk vn r1 r2 r3 r4 op fn nn vt vt).2 ⟨rfl,rfl,rfl,rfl,c1.symm,c2.symm,c3.symm,c4.symm,b2.symm,by omega,b4.symm⟩
    rw [hb] at this; cases this]
   exact Ay vk vn r1 r2 r3 r4 op fn nn ⟨vt.toArray⟩ (by rw [hl]; exact hb) w
 by_cases k2:k=2
 ·subst k2
  cases hb:bl 2 0 0 r1 r2 r3 r4 0 0 0 2 vk vn r1 r2 r3 r4 op fn nn [] vt with
  | false =>
   rw [dh fun g=>by
    obtain ⟨⟨a1,a2,a3⟩,-,-,b5,b6,b7⟩:=(aU rfl g).2.1 rfl
    have a1:vk=0:=a1
    have b6:fn=0:=b6
    have:=(aS 2 0 0 r1 r2 r3 r4 0 0 0 2 vk vn r1 r2 r3 r4 op fn nn [] vt).2 ⟨rfl,by omega,a2.symm,a3.symm,rfl,rfl,rfl,rfl,b5.symm,by omega,b7.symm⟩
    rw [hb] at this; cases this]
   exact AA vk vn r1 r2 r3 r4 op fn nn ⟨vt.toArray⟩ (by rw [hl]; exact hb) w
  | true =>
   by_cases hc:aG ⟨r1,r2,r3,r4⟩=true
   ·obtain ⟨-,a1,a2,a3,-,-,-,-,b5,b6,b7⟩:=(aS ..).1 hb
    by_cases hne:r1=r3∧r2=r4
    ·obtain ⟨rfl,rfl⟩:=hne
     rw [d6 (.inr (.inl ⟨rfl,⟨nat0 a1.symm,a2.symm,a3.symm⟩,hc,⟨rfl,rfl⟩,b5.symm,nat0 b6.symm,b7.symm⟩))]
     exact xD vk vn r1 r2 op fn nn ⟨vt.toArray⟩ (by rw [hl]; exact hb) (bb hc) w
    rw [dh fun g=>hne ((aU rfl g).2.1 rfl).2.2.1]
    exact Az vk vn r1 r2 r3 r4 op fn nn ⟨vt.toArray⟩ (by rw [hl]; exact hb) (bb hc) hne w
   rw [dh fun g=>hc ((aU rfl g).2.1 rfl).2.1]
   exact xC vk vn r1 r2 r3 r4 op fn nn ⟨vt.toArray⟩ (by rw [hl]; exact hb) _ rfl (hce _ hc) w
 by_cases k3:k=3
 ·subst k3
  cases hb:bl 3 0 0 r1 r2 r3 r4 0 0 0 3 vk vn r1 r2 r3 r4 op fn nn [] vt with
  | false =>
   rw [dh fun g=>by
    obtain ⟨⟨a1,a2,a3⟩,-,-,b5,b6,b7⟩:=(aU rfl g).2.2.1 rfl
    have a1:vk=0:=a1
    have b6:fn=0:=b6
    have:=(aS 3 0 0 r1 r2 r3 r4 0 0 0 3 vk vn r1 r2 r3 r4 op fn nn [] vt).2 ⟨rfl,by omega,a2.symm,a3.symm,rfl,rfl,rfl,rfl,b5.symm,by omega,b7.symm⟩
    rw [hb] at this; cases this]
   exact AC vk vn r1 r2 r3 r4 op fn nn ⟨vt.toArray⟩ (by rw [hl]; exact hb) w
  | true =>
   by_cases hc:aG ⟨r1,r2,r3,r4⟩=true
   ·obtain ⟨-,a1,a2,a3,-,-,-,-,b5,b6,b7⟩:=(aS ..).1 hb
    by_cases hne:r1=r3∧r2=r4
    ·obtain ⟨rfl,rfl⟩:=hne
     rw [dh fun g=>((aU rfl g).2.2.1 rfl).2.2.1 ⟨rfl,rfl⟩]
     exact xF vk vn r1 r2 op fn nn ⟨vt.toArray⟩ (by rw [hl]; exact hb) (bb hc) w
    rw [d6 (.inr (.inr (.inl ⟨rfl,⟨nat0 a1.symm,a2.symm,a3.symm⟩,hc,hne,b5.symm,nat0 b6.symm,b7.symm⟩)))]
    exact AB vk vn r1 r2 r3 r4 op fn nn ⟨vt.toArray⟩ (by rw [hl]; exact hb) (bb hc) hne w
   rw [dh fun g=>hc ((aU rfl g).2.2.1 rfl).2.1]
   exact xE vk vn r1 r2 r3 r4 op fn nn ⟨vt.toArray⟩ (by rw [hl]; exact hb) _ rfl (hce _ hc) w
 have p45:k=4∨k=5→okD ⟨k,vk,vn,vt,⟨r1,r2,r3,r4⟩,op,fn,nn⟩=bl k 0 0 0 0 0 0 0 0 0 k vk vn r1 r2 r3 r4 op fn nn [] vt:=by
  intro hk
  cases hb:bl k 0 0 0 0 0 0 0 0 0 k vk vn r1 r2 r3 r4 op fn nn [] vt with
  | true =>
   obtain ⟨-,a1,a2,a3,b1,b2,b3,b4,b5,b6,b7⟩:=(aS ..).1 hb
   refine d6 (.inr (.inr (.inr (.inl ⟨hk,⟨nat0 a1.symm,a2.symm,a3.symm⟩,?_,b5.symm,nat0 b6.symm,b7.symm⟩))))
   show (⟨r1,r2,r3,r4⟩:R4)=R4.zero
   rw [← b1,← b2,← b3,← b4]; rfl
  | false =>
   refine dh fun g => ?_
   obtain ⟨⟨a1,a2,a3⟩,b1,b5,b6,b7⟩:=(aU rfl g).2.2.2.1 hk
   have b1:(⟨r1,r2,r3,r4⟩:R4)=⟨0,0,0,0⟩:=b1
   injection b1 with c1 c2 c3 c4
   have a1:vk=0:=a1
   have b6:fn=0:=b6
   have:=(aS k 0 0 0 0 0 0 0 0 0 k vk vn r1 r2 r3 r4 op fn nn [] vt).2 ⟨rfl,by omega,a2.symm,a3.symm,c1.symm,c2.symm,c3.symm,c4.symm,b5.symm,by omega,b7.symm⟩
   rw [hb] at this; cases this
 by_cases k4:k=4
 ·subst k4
  rw [p45 (.inl rfl)]
  exact fb4 vk vn r1 r2 r3 r4 op fn nn ⟨vt.toArray⟩ _ (by rw [hl]; rfl) w
 by_cases k5:k=5
 ·subst k5
  rw [p45 (.inr rfl)]
  exact fb5 vk vn r1 r2 r3 r4 op fn nn ⟨vt.toArray⟩ _ (by rw [hl]; rfl) w
 clear p45
 by_cases k6:k=6
 ·subst k6
  cases hb:bl 6 0 0 0 0 0 0 op 0 0 6 vk vn r1 r2 r3 r4 op fn nn [] vt with
  | true =>
   obtain ⟨-,a1,a2,a3,b1,b2,b3,b4,-,b6,b7⟩:=(aS ..).1 hb
   by_cases h1:1≤op
   ·have e:okD ⟨6,vk,vn,vt,⟨r1,r2,r3,r4⟩,op,fn,nn⟩=decide (op≤12):=by
     by_cases h2:op≤12
     ·rw [decide_eq_true h2]
      refine d6 (.inr (.inr (.inr (.inr (.inl ⟨rfl,⟨nat0 a1.symm,a2.symm,a3.symm⟩,?_,⟨h1,h2⟩,nat0 b6.symm,b7.symm⟩)))))
      show (⟨r1,r2,r3,r4⟩:R4)=R4.zero
      rw [← b1,← b2,← b3,← b4]; rfl
     rw [decide_eq_false h2]
     exact dh fun g=>h2 ((aU rfl g).2.2.2.2.1 rfl).2.2.1.2
    rw [e]
    exact xG vk vn r1 r2 r3 r4 op fn nn ⟨vt.toArray⟩ (by rw [hl]; exact hb) h1 _ rfl w
   rw [dh fun g=>h1 ((aU rfl g).2.2.2.2.1 rfl).2.2.1.1]
   exact AD vk vn r1 r2 r3 r4 op fn nn ⟨vt.toArray⟩ (by rw [hl]; exact hb) h1 w
  | false =>
   rw [dh fun g=>by
    obtain ⟨⟨a1,a2,a3⟩,b1,-,b6,b7⟩:=(aU rfl g).2.2.2.2.1 rfl
    have b1:(⟨r1,r2,r3,r4⟩:R4)=⟨0,0,0,0⟩:=b1
    injection b1 with c1 c2 c3 c4
    have a1:vk=0:=a1
    have b6:fn=0:=b6
    have:=(aS 6 0 0 0 0 0 0 op 0 0 6 vk vn r1 r2 r3 r4 op fn nn [] vt).2 ⟨rfl,by omega,a2.symm,a3.symm,c1.symm,c2.symm,c3.symm,c4.symm,rfl,by omega,b7.symm⟩
    rw [hb] at this; cases this]
   exact AE vk vn r1 r2 r3 r4 op fn nn ⟨vt.toArray⟩ (by rw [hl]; exact hb) w
 by_cases k7:k=7
 ·subst k7
  cases hb:bl 7 0 0 0 0 0 0 0 fn nn 7 vk vn r1 r2 r3 r4 op fn nn [] vt with
  | true =>
   obtain ⟨-,a1,a2,a3,b1,b2,b3,b4,b5,-,-⟩:=(aS ..).1 hb
   have e:okD ⟨7,vk,vn,vt,⟨r1,r2,r3,r4⟩,op,fn,nn⟩=decide (0≤nn):=by
    by_cases h0:0≤nn
    ·rw [decide_eq_true h0]
     refine d6 (.inr (.inr (.inr (.inr (.inr ⟨rfl,⟨nat0 a1.symm,a2.symm,a3.symm⟩,?_,b5.symm,h0⟩)))))
     show (⟨r1,r2,r3,r4⟩:R4)=R4.zero
     rw [← b1,← b2,← b3,← b4]; rfl
    rw [decide_eq_false h0]
    exact dh fun g=>h0 ((aU rfl g).2.2.2.2.2.1 rfl).2.2.2
   rw [e]
   exact xH vk vn r1 r2 r3 r4 op fn nn ⟨vt.toArray⟩ (by rw [hl]; exact hb) _ rfl w
  | false =>
   rw [dh fun g=>by
    obtain ⟨⟨a1,a2,a3⟩,b1,b5,-⟩:=(aU rfl g).2.2.2.2.2.1 rfl
    have b1:(⟨r1,r2,r3,r4⟩:R4)=⟨0,0,0,0⟩:=b1
    injection b1 with c1 c2 c3 c4
    have a1:vk=0:=a1
    have:=(aS 7 0 0 0 0 0 0 0 fn nn 7 vk vn r1 r2 r3 r4 op fn nn [] vt).2 ⟨rfl,by omega,a2.symm,a3.symm,c1.symm,c2.symm,c3.symm,c4.symm,b5.symm,rfl,rfl⟩
    rw [hb] at this; cases this]
   exact AF vk vn r1 r2 r3 r4 op fn nn ⟨vt.toArray⟩ (by rw [hl]; exact hb) w
 rw [dh fun g=>by have h9:1≤k∧k≤7:=(aU rfl g).2.2.2.2.2.2; omega]
 exact uR k vk vn r1 r2 r3 r4 op fn nn ⟨vt.toArray⟩ (nope k1) (nope k2) (nope k3) (nope k4) (nope k5) (nope k6) (nope k7) w
