/- The reference's fields, below and fits, on nodes that a formula may hold. -/
import Derived.Test.YtdplcdhpnmcdjaaGreatDoorKForB
import Derived.Test.YtdplcdhpnmcdjaaGreatDoorKTg
import Derived.Test.YtdplcdhpnmcdjaaGreatDoorKR8A
import Derived.Test.YtdplcdhpnmcdjaaGreatDoorKAddrP
namespace Go.Proofs.YtdplcdhpnmcdjaaGreatDoor
set_option maxRecDepth 100000
set_option maxHeartbeats 4000000
open Go.RowKit Go.Proofs.Tryz
theorem C7 (n:Int) (h:0≤n) (w:World) :
  Calls prog 40 #[.agg #[.int .u8 1,.int .i64 n,.string ⟨#[]⟩]] w fun e w'=>e=.returned (.int .i64 0)∧Below w.heap.size w w':=by
 have h0 : -9223372036854775807≤n:=by omega
 have H1:=Lib.hid ((Ok.start w).alloc w.heap.size 35 [.int .u8 1,.int .i64 n,.string ⟨#[]⟩] rfl)
 go_enter func40,ntmps40
 go_wp2_with fail
 generalize (w.alloc (.cells #[.int .u8 1,.int .i64 n,.string ⟨#[]⟩] 35))=W2 at H1 ⊢
 go_ret
 exact ⟨rfl,H1.out.bel⟩
theorem Dn (n:Int) (h:0≤n) (w:World) :
  Calls prog 68 #[.agg #[.int .u8 1,.int .i64 n,.string ⟨#[]⟩]] w fun e w'=>e=.returned (.bool true)∧Below w.heap.size w w':=by
 have h0 : -9223372036854775807≤n:=by omega
 have H1:=Lib.hid ((Ok.start w).alloc w.heap.size 35 [.int .u8 1,.int .i64 n,.string ⟨#[]⟩] rfl)
 go_enter func68,ntmps68
 go_wp2_with fail
 generalize (w.alloc (.cells #[.int .u8 1,.int .i64 n,.string ⟨#[]⟩] 35))=W2 at H1 ⊢
 refine cM (C7 n h _) H1 fun w3 H5=>?_
 clear H1
 have F6:=sE H5
 go_wp2_with fail
 go_ret
 exact ⟨rfl,H5.out.bel⟩
theorem DU  (w:World) :
  Calls prog 40 #[.agg #[.int .u8 2,.int .i64 0,.string ⟨#[]⟩]] w fun e w'=>e=.returned (.int .i64 0)∧Below w.heap.size w w':=by
 have H1:=Lib.hid ((Ok.start w).alloc w.heap.size 35 [.int .u8 2,.int .i64 0,.string ⟨#[]⟩] rfl)
 go_enter func40,ntmps40
 go_wp2_with fail
 generalize (w.alloc (.cells #[.int .u8 2,.int .i64 0,.string ⟨#[]⟩] 35))=W2 at H1 ⊢
 go_ret
 exact ⟨rfl,H1.out.bel⟩
theorem D5  (w:World) :
  Calls prog 68 #[.agg #[.int .u8 2,.int .i64 0,.string ⟨#[]⟩]] w fun e w'=>e=.returned (.bool true)∧Below w.heap.size w w':=by
 have H1:=Lib.hid ((Ok.start w).alloc w.heap.size 35 [.int .u8 2,.int .i64 0,.string ⟨#[]⟩] rfl)
 go_enter func68,ntmps68
 go_wp2_with fail
 generalize (w.alloc (.cells #[.int .u8 2,.int .i64 0,.string ⟨#[]⟩] 35))=W2 at H1 ⊢
 refine cM (DU  _) H1 fun w3 H5=>?_
 clear H1
 have F6:=sE H5
 go_wp2_with fail
 go_ret
 exact ⟨rfl,H5.out.bel⟩
theorem C9  (w:World) :
  Calls prog 40 #[.agg #[.int .u8 2,.int .i64 1,.string ⟨#[]⟩]] w fun e w'=>e=.returned (.int .i64 0)∧Below w.heap.size w w':=by
 have H1:=Lib.hid ((Ok.start w).alloc w.heap.size 35 [.int .u8 2,.int .i64 1,.string ⟨#[]⟩] rfl)
 go_enter func40,ntmps40
 go_wp2_with fail
 generalize (w.alloc (.cells #[.int .u8 2,.int .i64 1,.string ⟨#[]⟩] 35))=W2 at H1 ⊢
 go_ret
 exact ⟨rfl,H1.out.bel⟩
theorem Dp  (w:World) :
  Calls prog 68 #[.agg #[.int .u8 2,.int .i64 1,.string ⟨#[]⟩]] w fun e w'=>e=.returned (.bool true)∧Below w.heap.size w w':=by
 have H1:=Lib.hid ((Ok.start w).alloc w.heap.size 35 [.int .u8 2,.int .i64 1,.string ⟨#[]⟩] rfl)
 go_enter func68,ntmps68
 go_wp2_with fail
 generalize (w.alloc (.cells #[.int .u8 2,.int .i64 1,.string ⟨#[]⟩] 35))=W2 at H1 ⊢
 refine cM (C9  _) H1 fun w3 H5=>?_
 clear H1
 have F6:=sE H5
 go_wp2_with fail
 go_ret
 exact ⟨rfl,H5.out.bel⟩
theorem C8 (t:List UInt8) (h:t.length≤256) (hp:t.all aj=true) (w:World) :
  Calls prog 40 #[.agg #[.int .u8 3,.int .i64 0,.string ⟨t.toArray⟩]] w fun e w'=>e=.returned (.int .i64 0)∧Below w.heap.size w w':=by
 have H1:=Lib.hid ((Ok.start w).alloc w.heap.size 35 [.int .u8 3,.int .i64 0,.string ⟨t.toArray⟩] rfl)
 go_enter func40,ntmps40
 go_wp2_with fail
 generalize (w.alloc (.cells #[.int .u8 3,.int .i64 0,.string ⟨t.toArray⟩] 35))=W2 at H1 ⊢
 refine (Bp t _ h hp).mono ?_
 rintro e w3 ⟨rfl,hw⟩
 obtain rfl:W2=w3:=hw.symm
 have F3:=sE H1
 go_wp2_with fail
 go_ret
 exact ⟨rfl,H1.out.bel⟩
theorem Do (t:List UInt8) (h:t.length≤256) (hp:t.all aj=true) (w:World) :
  Calls prog 68 #[.agg #[.int .u8 3,.int .i64 0,.string ⟨t.toArray⟩]] w fun e w'=>e=.returned (.bool true)∧Below w.heap.size w w':=by
 have H1:=Lib.hid ((Ok.start w).alloc w.heap.size 35 [.int .u8 3,.int .i64 0,.string ⟨t.toArray⟩] rfl)
 go_enter func68,ntmps68
 go_wp2_with fail
 generalize (w.alloc (.cells #[.int .u8 3,.int .i64 0,.string ⟨t.toArray⟩] 35))=W2 at H1 ⊢
 refine cM (C8 t h hp _) H1 fun w3 H5=>?_
 clear H1
 have F6:=sE H5
 go_wp2_with fail
 go_ret
 exact ⟨rfl,H5.out.bel⟩
theorem C6 (c:Int) (h1:1≤c) (h2:c≤5) (w:World) :
  Calls prog 40 #[.agg #[.int .u8 4,.int .i64 c,.string ⟨#[]⟩]] w fun e w'=>e=.returned (.int .i64 0)∧Below w.heap.size w w':=by
 have h3:c≤6:=by omega
 have h4:(c != 6)=true:=by simp; omega
 have H1:=Lib.hid ((Ok.start w).alloc w.heap.size 35 [.int .u8 4,.int .i64 c,.string ⟨#[]⟩] rfl)
 go_enter func40,ntmps40
 go_wp2_with fail
 generalize (w.alloc (.cells #[.int .u8 4,.int .i64 c,.string ⟨#[]⟩] 35))=W2 at H1 ⊢
 go_ret
 exact ⟨rfl,H1.out.bel⟩
theorem Dm (c:Int) (h1:1≤c) (h2:c≤5) (w:World) :
  Calls prog 68 #[.agg #[.int .u8 4,.int .i64 c,.string ⟨#[]⟩]] w fun e w'=>e=.returned (.bool true)∧Below w.heap.size w w':=by
 have h3:c≤6:=by omega
 have h4:(c != 6)=true:=by simp; omega
 have H1:=Lib.hid ((Ok.start w).alloc w.heap.size 35 [.int .u8 4,.int .i64 c,.string ⟨#[]⟩] rfl)
 go_enter func68,ntmps68
 go_wp2_with fail
 generalize (w.alloc (.cells #[.int .u8 4,.int .i64 c,.string ⟨#[]⟩] 35))=W2 at H1 ⊢
 refine cM (C6 c h1 h2 _) H1 fun w3 H5=>?_
 clear H1
 have F6:=sE H5
 go_wp2_with fail
 go_ret
 exact ⟨rfl,H5.out.bel⟩
theorem Dt (c d:Int) (w:World) :
  Calls prog 211 #[.agg #[.int .i64 c,.int .i64 d,.int .i64 c,.int .i64 d]] w fun e w'=>e=.returned (.bool true)∧Below w.heap.size w w':=by
 have H1:=Lib.hid ((Ok.start w).alloc w.heap.size 37 [.int .i64 c,.int .i64 d,.int .i64 c,.int .i64 d] rfl)
 go_enter func211,ntmps211
 go_wp2_with fail
 generalize (w.alloc (.cells #[.int .i64 c,.int .i64 d,.int .i64 c,.int .i64 d] 37))=W2 at H1 ⊢
 go_ret
 exact ⟨rfl,H1.out.bel⟩
theorem Dr (a b c d:Int) (h:a≠c) (w:World) :
  Calls prog 211 #[.agg #[.int .i64 a,.int .i64 b,.int .i64 c,.int .i64 d]] w fun e w'=>e=.returned (.bool false)∧Below w.heap.size w w':=by
 have h1:(a == c)=false:=by simpa using h
 have H1:=Lib.hid ((Ok.start w).alloc w.heap.size 37 [.int .i64 a,.int .i64 b,.int .i64 c,.int .i64 d] rfl)
 go_enter func211,ntmps211
 go_wp2_with fail
 generalize (w.alloc (.cells #[.int .i64 a,.int .i64 b,.int .i64 c,.int .i64 d] 37))=W2 at H1 ⊢
 go_ret
 exact ⟨rfl,H1.out.bel⟩
theorem Ds (b c d:Int) (h:b≠d) (w:World) :
  Calls prog 211 #[.agg #[.int .i64 c,.int .i64 b,.int .i64 c,.int .i64 d]] w fun e w'=>e=.returned (.bool false)∧Below w.heap.size w w':=by
 have h1:(b == d)=false:=by simpa using h
 have H1:=Lib.hid ((Ok.start w).alloc w.heap.size 37 [.int .i64 c,.int .i64 b,.int .i64 c,.int .i64 d] rfl)
 go_enter func211,ntmps211
 go_wp2_with fail
 generalize (w.alloc (.cells #[.int .i64 c,.int .i64 b,.int .i64 c,.int .i64 d] 37))=W2 at H1 ⊢
 go_ret
 exact ⟨by first | rfl | simp [h],H1.out.bel⟩
theorem D8 (a b c d:Int) (h:¬ (a=c∧b=d)) (w:World) :
  Calls prog 211 #[.agg #[.int .i64 a,.int .i64 b,.int .i64 c,.int .i64 d]] w fun e w'=>e=.returned (.bool false)∧Below w.heap.size w w':=by
 by_cases hac:a=c
 ·subst hac
  exact Ds b a d (fun h9=>h ⟨rfl,h9⟩) w
 exact Dr a b c d hac w
theorem BB  (w:World) :
  Calls prog 192 #[.agg #[.int .u8 4,.int .u8 0,.int .i64 0,.string ⟨#[]⟩,.int .i64 0,.int .i64 0,.int .i64 0,.int .i64 0,.int .i64 0,.int .u8 0,.int .i64 0]] w fun e w'=>e=.returned (.bool true)∧Below w.heap.size w w':=by
 have H1:=Lib.hid (((Ok.start w).alloc w.heap.size 39 [.int .u8 4,.int .u8 0,.int .i64 0,.string ⟨#[]⟩,.int .i64 0,.int .i64 0,.int .i64 0,.int .i64 0,.int .i64 0,.int .u8 0,.int .i64 0] rfl).alloc (w.heap.size+1) 39 [.int .u8 4,.int .u8 0,.int .i64 0,.string ⟨#[]⟩,.int .i64 0,.int .i64 0,.int .i64 0,.int .i64 0,.int .i64 0,.int .u8 0,.int .i64 0] (by simp))
 go_enter func192,ntmps192
 go_wp2_with fail
 generalize ((w.alloc (.cells #[.int .u8 4,.int .u8 0,.int .i64 0,.string ⟨#[]⟩,.int .i64 0,.int .i64 0,.int .i64 0,.int .i64 0,.int .i64 0,.int .u8 0,.int .i64 0] 39)).alloc (.cells #[.int .u8 4,.int .u8 0,.int .i64 0,.string ⟨#[]⟩,.int .i64 0,.int .i64 0,.int .i64 0,.int .i64 0,.int .i64 0,.int .u8 0,.int .i64 0] 39))=W2 at H1 ⊢
 go_ret
 exact ⟨rfl,H1.out.bel⟩
theorem BD  (w:World) :
  Calls prog 192 #[.agg #[.int .u8 5,.int .u8 0,.int .i64 0,.string ⟨#[]⟩,.int .i64 0,.int .i64 0,.int .i64 0,.int .i64 0,.int .i64 0,.int .u8 0,.int .i64 0]] w fun e w'=>e=.returned (.bool true)∧Below w.heap.size w w':=by
 have H1:=Lib.hid (((Ok.start w).alloc w.heap.size 39 [.int .u8 5,.int .u8 0,.int .i64 0,.string ⟨#[]⟩,.int .i64 0,.int .i64 0,.int .i64 0,.int .i64 0,.int .i64 0,.int .u8 0,.int .i64 0] rfl).alloc (w.heap.size+1) 39 [.int .u8 5,.int .u8 0,.int .i64 0,.string ⟨#[]⟩,.int .i64 0,.int .i64 0,.int .i64 0,.int .i64 0,.int .i64 0,.int .u8 0,.int .i64 0] (by simp))
 go_enter func192,ntmps192
 go_wp2_with fail
 generalize ((w.alloc (.cells #[.int .u8 5,.int .u8 0,.int .i64 0,.string ⟨#[]⟩,.int .i64 0,.int .i64 0,.int .i64 0,.int .i64 0,.int .i64 0,.int .u8 0,.int .i64 0] 39)).alloc (.cells #[.int .u8 5,.int .u8 0,.int .i64 0,.string ⟨#[]⟩,.int .i64 0,.int .i64 0,.int .i64 0,.int .i64 0,.int .i64 0,.int .u8 0,.int .i64 0] 39))=W2 at H1 ⊢
 go_ret
 exact ⟨rfl,H1.out.bel⟩
theorem Bz (op:Int) (h1:1≤op) (h2:op≤12) (w:World) :
  Calls prog 192 #[.agg #[.int .u8 6,.int .u8 0,.int .i64 0,.string ⟨#[]⟩,.int .i64 0,.int .i64 0,.int .i64 0,.int .i64 0,.int .i64 op,.int .u8 0,.int .i64 0]] w fun e w'=>e=.returned (.bool true)∧Below w.heap.size w w':=by
 have H1:=Lib.hid (((Ok.start w).alloc w.heap.size 39 [.int .u8 6,.int .u8 0,.int .i64 0,.string ⟨#[]⟩,.int .i64 0,.int .i64 0,.int .i64 0,.int .i64 0,.int .i64 op,.int .u8 0,.int .i64 0] rfl).alloc (w.heap.size+1) 39 [.int .u8 6,.int .u8 0,.int .i64 0,.string ⟨#[]⟩,.int .i64 0,.int .i64 0,.int .i64 0,.int .i64 0,.int .i64 op,.int .u8 0,.int .i64 0] (by simp))
 go_enter func192,ntmps192
 go_wp2_with fail
 generalize ((w.alloc (.cells #[.int .u8 6,.int .u8 0,.int .i64 0,.string ⟨#[]⟩,.int .i64 0,.int .i64 0,.int .i64 0,.int .i64 0,.int .i64 op,.int .u8 0,.int .i64 0] 39)).alloc (.cells #[.int .u8 6,.int .u8 0,.int .i64 0,.string ⟨#[]⟩,.int .i64 0,.int .i64 0,.int .i64 0,.int .i64 0,.int .i64 op,.int .u8 0,.int .i64 0] 39))=W2 at H1 ⊢
 go_ret
 exact ⟨rfl,H1.out.bel⟩
theorem BC (n:Int) (h:0≤n) (w:World) :
  Calls prog 192 #[.agg #[.int .u8 1,.int .u8 1,.int .i64 n,.string ⟨#[]⟩,.int .i64 0,.int .i64 0,.int .i64 0,.int .i64 0,.int .i64 0,.int .u8 0,.int .i64 0]] w fun e w'=>e=.returned (.bool true)∧Below w.heap.size w w':=by
 have H1:=Lib.hid (((Ok.start w).alloc w.heap.size 39 [.int .u8 1,.int .u8 1,.int .i64 n,.string ⟨#[]⟩,.int .i64 0,.int .i64 0,.int .i64 0,.int .i64 0,.int .i64 0,.int .u8 0,.int .i64 0] rfl).alloc (w.heap.size+1) 39 [.int .u8 1,.int .u8 1,.int .i64 n,.string ⟨#[]⟩,.int .i64 0,.int .i64 0,.int .i64 0,.int .i64 0,.int .i64 0,.int .u8 0,.int .i64 0] (by simp))
 go_enter func192,ntmps192
 go_wp2_with fail
 generalize ((w.alloc (.cells #[.int .u8 1,.int .u8 1,.int .i64 n,.string ⟨#[]⟩,.int .i64 0,.int .i64 0,.int .i64 0,.int .i64 0,.int .i64 0,.int .u8 0,.int .i64 0] 39)).alloc (.cells #[.int .u8 1,.int .u8 1,.int .i64 n,.string ⟨#[]⟩,.int .i64 0,.int .i64 0,.int .i64 0,.int .i64 0,.int .i64 0,.int .u8 0,.int .i64 0] 39))=W2 at H1 ⊢
 refine cM (Dn n h _) H1 fun w3 H5=>?_
 clear H1
 have F6:=sE H5
 go_wp2_with fail
 go_ret
 exact ⟨rfl,H5.out.bel⟩
theorem Cb  (w:World) :
  Calls prog 192 #[.agg #[.int .u8 1,.int .u8 2,.int .i64 0,.string ⟨#[]⟩,.int .i64 0,.int .i64 0,.int .i64 0,.int .i64 0,.int .i64 0,.int .u8 0,.int .i64 0]] w fun e w'=>e=.returned (.bool true)∧Below w.heap.size w w':=by
 have H1:=Lib.hid (((Ok.start w).alloc w.heap.size 39 [.int .u8 1,.int .u8 2,.int .i64 0,.string ⟨#[]⟩,.int .i64 0,.int .i64 0,.int .i64 0,.int .i64 0,.int .i64 0,.int .u8 0,.int .i64 0] rfl).alloc (w.heap.size+1) 39 [.int .u8 1,.int .u8 2,.int .i64 0,.string ⟨#[]⟩,.int .i64 0,.int .i64 0,.int .i64 0,.int .i64 0,.int .i64 0,.int .u8 0,.int .i64 0] (by simp))
 go_enter func192,ntmps192
 go_wp2_with fail
 generalize ((w.alloc (.cells #[.int .u8 1,.int .u8 2,.int .i64 0,.string ⟨#[]⟩,.int .i64 0,.int .i64 0,.int .i64 0,.int .i64 0,.int .i64 0,.int .u8 0,.int .i64 0] 39)).alloc (.cells #[.int .u8 1,.int .u8 2,.int .i64 0,.string ⟨#[]⟩,.int .i64 0,.int .i64 0,.int .i64 0,.int .i64 0,.int .i64 0,.int .u8 0,.int .i64 0] 39))=W2 at H1 ⊢
 refine cM (D5  _) H1 fun w3 H5=>?_
 clear H1
 have F6:=sE H5
 go_wp2_with fail
 go_ret
 exact ⟨rfl,H5.out.bel⟩
theorem BH  (w:World) :
  Calls prog 192 #[.agg #[.int .u8 1,.int .u8 2,.int .i64 1,.string ⟨#[]⟩,.int .i64 0,.int .i64 0,.int .i64 0,.int .i64 0,.int .i64 0,.int .u8 0,.int .i64 0]] w fun e w'=>e=.returned (.bool true)∧Below w.heap.size w w':=by
 have H1:=Lib.hid (((Ok.start w).alloc w.heap.size 39 [.int .u8 1,.int .u8 2,.int .i64 1,.string ⟨#[]⟩,.int .i64 0,.int .i64 0,.int .i64 0,.int .i64 0,.int .i64 0,.int .u8 0,.int .i64 0] rfl).alloc (w.heap.size+1) 39 [.int .u8 1,.int .u8 2,.int .i64 1,.string ⟨#[]⟩,.int .i64 0,.int .i64 0,.int .i64 0,.int .i64 0,.int .i64 0,.int .u8 0,.int .i64 0] (by simp))
 go_enter func192,ntmps192
 go_wp2_with fail
 generalize ((w.alloc (.cells #[.int .u8 1,.int .u8 2,.int .i64 1,.string ⟨#[]⟩,.int .i64 0,.int .i64 0,.int .i64 0,.int .i64 0,.int .i64 0,.int .u8 0,.int .i64 0] 39)).alloc (.cells #[.int .u8 1,.int .u8 2,.int .i64 1,.string ⟨#[]⟩,.int .i64 0,.int .i64 0,.int .i64 0,.int .i64 0,.int .i64 0,.int .u8 0,.int .i64 0] 39))=W2 at H1 ⊢
 refine cM (Dp  _) H1 fun w3 H5=>?_
 clear H1
 have F6:=sE H5
 go_wp2_with fail
 go_ret
 exact ⟨rfl,H5.out.bel⟩
theorem BG (t:List UInt8) (h:t.length≤256) (hp:t.all aj=true) (w:World) :
  Calls prog 192 #[.agg #[.int .u8 1,.int .u8 3,.int .i64 0,.string ⟨t.toArray⟩,.int .i64 0,.int .i64 0,.int .i64 0,.int .i64 0,.int .i64 0,.int .u8 0,.int .i64 0]] w fun e w'=>e=.returned (.bool true)∧Below w.heap.size w w':=by
 have H1:=Lib.hid (((Ok.start w).alloc w.heap.size 39 [.int .u8 1,.int .u8 3,.int .i64 0,.string ⟨t.toArray⟩,.int .i64 0,.int .i64 0,.int .i64 0,.int .i64 0,.int .i64 0,.int .u8 0,.int .i64 0] rfl).alloc (w.heap.size+1) 39 [.int .u8 1,.int .u8 3,.int .i64 0,.string ⟨t.toArray⟩,.int .i64 0,.int .i64 0,.int .i64 0,.int .i64 0,.int .i64 0,.int .u8 0,.int .i64 0] (by simp))
 go_enter func192,ntmps192
 go_wp2_with fail
 generalize ((w.alloc (.cells #[.int .u8 1,.int .u8 3,.int .i64 0,.string ⟨t.toArray⟩,.int .i64 0,.int .i64 0,.int .i64 0,.int .i64 0,.int .i64 0,.int .u8 0,.int .i64 0] 39)).alloc (.cells #[.int .u8 1,.int .u8 3,.int .i64 0,.string ⟨t.toArray⟩,.int .i64 0,.int .i64 0,.int .i64 0,.int .i64 0,.int .i64 0,.int .u8 0,.int .i64 0] 39))=W2 at H1 ⊢
 refine cM (Do t h hp _) H1 fun w3 H5=>?_
 clear H1
 have F6:=sE H5
 go_wp2_with fail
 go_ret
 exact ⟨rfl,H5.out.bel⟩
theorem BA (c:Int) (h1:1≤c) (h2:c≤5) (w:World) :
  Calls prog 192 #[.agg #[.int .u8 1,.int .u8 4,.int .i64 c,.string ⟨#[]⟩,.int .i64 0,.int .i64 0,.int .i64 0,.int .i64 0,.int .i64 0,.int .u8 0,.int .i64 0]] w fun e w'=>e=.returned (.bool true)∧Below w.heap.size w w':=by
 have H1:=Lib.hid (((Ok.start w).alloc w.heap.size 39 [.int .u8 1,.int .u8 4,.int .i64 c,.string ⟨#[]⟩,.int .i64 0,.int .i64 0,.int .i64 0,.int .i64 0,.int .i64 0,.int .u8 0,.int .i64 0] rfl).alloc (w.heap.size+1) 39 [.int .u8 1,.int .u8 4,.int .i64 c,.string ⟨#[]⟩,.int .i64 0,.int .i64 0,.int .i64 0,.int .i64 0,.int .i64 0,.int .u8 0,.int .i64 0] (by simp))
 go_enter func192,ntmps192
 go_wp2_with fail
 generalize ((w.alloc (.cells #[.int .u8 1,.int .u8 4,.int .i64 c,.string ⟨#[]⟩,.int .i64 0,.int .i64 0,.int .i64 0,.int .i64 0,.int .i64 0,.int .u8 0,.int .i64 0] 39)).alloc (.cells #[.int .u8 1,.int .u8 4,.int .i64 c,.string ⟨#[]⟩,.int .i64 0,.int .i64 0,.int .i64 0,.int .i64 0,.int .i64 0,.int .u8 0,.int .i64 0] 39))=W2 at H1 ⊢
 refine cM (Dm c h1 h2 _) H1 fun w3 H5=>?_
 clear H1
 have F6:=sE H5
 go_wp2_with fail
 go_ret
 exact ⟨rfl,H5.out.bel⟩
theorem BE (c r:Int) (hc:aG ⟨c,r,c,r⟩=true) (w:World) :
  Calls prog 192 #[.agg #[.int .u8 2,.int .u8 0,.int .i64 0,.string ⟨#[]⟩,.int .i64 c,.int .i64 r,.int .i64 c,.int .i64 r,.int .i64 0,.int .u8 0,.int .i64 0]] w fun e w'=>e=.returned (.bool true)∧Below w.heap.size w w':=by
 have HCE:=keep (bE hc)
 clear hc
 have H1:=Lib.hid (((Ok.start w).alloc w.heap.size 39 [.int .u8 2,.int .u8 0,.int .i64 0,.string ⟨#[]⟩,.int .i64 c,.int .i64 r,.int .i64 c,.int .i64 r,.int .i64 0,.int .u8 0,.int .i64 0] rfl).alloc (w.heap.size+1) 39 [.int .u8 2,.int .u8 0,.int .i64 0,.string ⟨#[]⟩,.int .i64 c,.int .i64 r,.int .i64 c,.int .i64 r,.int .i64 0,.int .u8 0,.int .i64 0] (by simp))
 go_enter func192,ntmps192
 go_upto_region 9 with fail
 generalize ((w.alloc (.cells #[.int .u8 2,.int .u8 0,.int .i64 0,.string ⟨#[]⟩,.int .i64 c,.int .i64 r,.int .i64 c,.int .i64 r,.int .i64 0,.int .u8 0,.int .i64 0] 39)).alloc (.cells #[.int .u8 2,.int .u8 0,.int .i64 0,.string ⟨#[]⟩,.int .i64 c,.int .i64 r,.int .i64 c,.int .i64 r,.int .i64 0,.int .u8 0,.int .i64 0] 39))=W2 at H1 ⊢
 refine wp_region_held_drew (S:=fun W=>Ok w [ac (w.heap.size+1) 39 [.int .u8 2,.int .u8 0,.int .i64 0,.string ⟨#[]⟩,.int .i64 c,.int .i64 r,.int .i64 c,.int .i64 r,.int .i64 0,.int .u8 0,.int .i64 0],ac (w.heap.size) 39 [.int .u8 2,.int .u8 0,.int .i64 0,.string ⟨#[]⟩,.int .i64 c,.int .i64 r,.int .i64 c,.int .i64 r,.int .i64 0,.int .u8 0,.int .i64 0]] W) (by kernel_rfl) H1.out.drew (fun hHeld => ?_)
 refine wt3 0 ?_
 refine wt3 1 ?_
 refine wt3 2 ?_
 refine wt3 3 ?_
 refine wt3 4 ?_
 refine wt3 5 ?_
 refine wal 6 fun K hK => ?_
 go_simp
 refine (A9 c r c r _).mono ?_
 rintro e w4 ⟨rfl,hb5⟩
 rw [HCE.out]
 go_wp2_with fail
 refine hK.out _ _ (hHeld.below hb5) (fun hHeld => ?_)
 clear hK K
 refine wn ?_
 refine wt3 7 ?_
 refine wt3 8 ?_
 refine wt3 9 ?_
 refine wt3 10 ?_
 refine wt3 11 ?_
 refine wt3 13 ?_
 refine wt3 14 ?_
 refine wt3 15 ?_
 refine wal 12 fun K hK => ?_
 go_simp
 refine (Dt c r _).mono ?_
 rintro e w6 ⟨rfl,hb7⟩
 go_wp2_with fail
 refine hK.out _ _ (hHeld.below hb7) (fun hHeld => ?_)
 clear hK K
 refine wn ?_
 refine wt3 16 ?_
 refine wt3 17 ?_
 refine wt3 18 ?_
 refine wpAnyH_done (by kernel_rfl) ?_ _
 clear H1
 have H8:=Lib.hid hHeld
 clear hHeld
 go_wp2_with fail
 go_ret
 exact ⟨rfl,H8.out.bel⟩
theorem BF (a b c d:Int) (hc:aG ⟨a,b,c,d⟩=true) (hne:¬ (a=c∧b=d)) (w:World) :
  Calls prog 192 #[.agg #[.int .u8 3,.int .u8 0,.int .i64 0,.string ⟨#[]⟩,.int .i64 a,.int .i64 b,.int .i64 c,.int .i64 d,.int .i64 0,.int .u8 0,.int .i64 0]] w fun e w'=>e=.returned (.bool true)∧Below w.heap.size w w':=by
 have HCE:=keep (bE hc)
 have HNE:=keep hne
 clear hc hne
 have H1:=Lib.hid (((Ok.start w).alloc w.heap.size 39 [.int .u8 3,.int .u8 0,.int .i64 0,.string ⟨#[]⟩,.int .i64 a,.int .i64 b,.int .i64 c,.int .i64 d,.int .i64 0,.int .u8 0,.int .i64 0] rfl).alloc (w.heap.size+1) 39 [.int .u8 3,.int .u8 0,.int .i64 0,.string ⟨#[]⟩,.int .i64 a,.int .i64 b,.int .i64 c,.int .i64 d,.int .i64 0,.int .u8 0,.int .i64 0] (by simp))
 go_enter func192,ntmps192
 go_upto_region 9 with fail
 generalize ((w.alloc (.cells #[.int .u8 3,.int .u8 0,.int .i64 0,.string ⟨#[]⟩,.int .i64 a,.int .i64 b,.int .i64 c,.int .i64 d,.int .i64 0,.int .u8 0,.int .i64 0] 39)).alloc (.cells #[.int .u8 3,.int .u8 0,.int .i64 0,.string ⟨#[]⟩,.int .i64 a,.int .i64 b,.int .i64 c,.int .i64 d,.int .i64 0,.int .u8 0,.int .i64 0] 39))=W2 at H1 ⊢
 refine wp_region_held_drew (S:=fun W=>Ok w [ac (w.heap.size+1) 39 [.int .u8 3,.int .u8 0,.int .i64 0,.string ⟨#[]⟩,.int .i64 a,.int .i64 b,.int .i64 c,.int .i64 d,.int .i64 0,.int .u8 0,.int .i64 0],ac (w.heap.size) 39 [.int .u8 3,.int .u8 0,.int .i64 0,.string ⟨#[]⟩,.int .i64 a,.int .i64 b,.int .i64 c,.int .i64 d,.int .i64 0,.int .u8 0,.int .i64 0]] W) (by kernel_rfl) H1.out.drew (fun hHeld => ?_)
 refine wt3 0 ?_
 refine wt3 1 ?_
 refine wt3 2 ?_
 refine wt3 3 ?_
 refine wt3 4 ?_
 refine wt3 5 ?_
 refine wal 6 fun K hK => ?_
 go_simp
 refine (A9 a b c d _).mono ?_
 rintro e w4 ⟨rfl,hb5⟩
 rw [HCE.out]
 go_wp2_with fail
 refine hK.out _ _ (hHeld.below hb5) (fun hHeld => ?_)
 clear hK K
 refine wn ?_
 refine wt3 7 ?_
 refine wt3 8 ?_
 refine wt3 9 ?_
 refine wt3 10 ?_
 refine wt3 11 ?_
 refine wt3 13 ?_
 refine wt3 14 ?_
 refine wt3 15 ?_
 refine wal 12 fun K hK => ?_
 go_simp
 refine (D8 a b c d HNE.out _).mono ?_
 rintro e w6 ⟨rfl,hb7⟩
 go_wp2_with fail
 refine hK.out _ _ (hHeld.below hb7) (fun hHeld => ?_)
 clear hK K
 refine wn ?_
 refine wt3 16 ?_
 refine wt3 17 ?_
 refine wt3 18 ?_
 refine wpAnyH_done (by kernel_rfl) ?_ _
 clear H1
 have H8:=Lib.hid hHeld
 clear hHeld
 go_wp2_with fail
 go_ret
 exact ⟨rfl,H8.out.bel⟩
theorem Bf (fn k:Nat) (w:World) :
  Calls prog 192 #[.agg #[.int .u8 7,.int .u8 0,.int .i64 0,.string ⟨#[]⟩,.int .i64 0,.int .i64 0,.int .i64 0,.int .i64 0,.int .i64 0,.int .u8 (fn:Nat),.int .i64 (k:Nat)]] w fun e w'=>e=.returned (.bool true)∧Below w.heap.size w w':=by
 have hk:(0:Int)≤(k:Int):=by omega
 have H1:=Lib.hid (((Ok.start w).alloc w.heap.size 39 [.int .u8 7,.int .u8 0,.int .i64 0,.string ⟨#[]⟩,.int .i64 0,.int .i64 0,.int .i64 0,.int .i64 0,.int .i64 0,.int .u8 (fn:Nat),.int .i64 (k:Nat)] rfl).var (w.heap.size+1) 39 [.int .u8 7,.int .u8 0,.int .i64 0,.string ⟨#[]⟩,.int .i64 0,.int .i64 0,.int .i64 0,.int .i64 0,.int .i64 0,.int .u8 0,.int .i64 0] (by simp))
 go_enter func192,ntmps192
 go_upto_region 17 with fail
 generalize ((w.alloc (.cells #[.int .u8 7,.int .u8 0,.int .i64 0,.string ⟨#[]⟩,.int .i64 0,.int .i64 0,.int .i64 0,.int .i64 0,.int .i64 0,.int .u8 (fn:Nat),.int .i64 (k:Nat)] 39)).alloc (.cells #[.int .u8 7,.int .u8 0,.int .i64 0,.string ⟨#[]⟩,.int .i64 0,.int .i64 0,.int .i64 0,.int .i64 0,.int .i64 0,.int .u8 0,.int .i64 0] 39))=W2 at H1 ⊢
 have F3:=sE H1
 go_region
 clear F3
 have hfar:∀ x∈[ac (w.heap.size) 39 [.int .u8 7,.int .u8 0,.int .i64 0,.string ⟨#[]⟩,.int .i64 0,.int .i64 0,.int .i64 0,.int .i64 0,.int .i64 0,.int .u8 (fn:Nat),.int .i64 (k:Nat)]],x.far (some (w.heap.size+1)):=by
  intro x hx
  simp at hx
  subst hx
  show some w.heap.size≠some (w.heap.size+1)
  simp
 have H5:=Lib.hid (((H1.out.set_ (i:=9) (u:=.int .u8 (fn:Nat)) (by omega) hfar).set_ (i:=10) (u:=.int .i64 (k:Nat)) (by omega) hfar).drew)
 clear hfar H1
 have H6:Hid (Ok w [af (w.heap.size+1) 39 [.int .u8 7,.int .u8 0,.int .i64 0,.string ⟨#[]⟩,.int .i64 0,.int .i64 0,.int .i64 0,.int .i64 0,.int .i64 0,.int .u8 (fn:Nat),.int .i64 (k:Nat)],ac (w.heap.size) 39 [.int .u8 7,.int .u8 0,.int .i64 0,.string ⟨#[]⟩,.int .i64 0,.int .i64 0,.int .i64 0,.int .i64 0,.int .i64 0,.int .u8 (fn:Nat),.int .i64 (k:Nat)]] ((W2.setCell ⟨w.heap.size+1,9,none⟩ (.int .u8 (fn:Nat))).setCell ⟨w.heap.size+1,10,none⟩ (.int .i64 (k:Nat))).drew):=H5
 clear H5
 generalize ((W2.setCell ⟨w.heap.size+1,9,none⟩ (.int .u8 (fn:Nat))).setCell ⟨w.heap.size+1,10,none⟩ (.int .i64 (k:Nat))).drew=W9 at H6 ⊢
 have F4:=sE H6
 go_wp2_with fail
 go_ret
 exact ⟨rfl,H6.out.bel⟩
theorem AB (n:Nd) (h:aL n) (w:World) :
  Calls prog 192 #[ndA n] w fun e w'=>e=.returned (.bool true)∧Below w.heap.size w w':=by
 rcases h with ⟨vk,vn,vt,rfl,hv⟩ | ⟨⟨a,b,c,d⟩,rfl,hc,h1,h2⟩ | ⟨⟨a,b,c,d⟩,rfl,hc,hne⟩ | rfl | rfl | ⟨op,rfl,h1,h2⟩ | ⟨fn,k,rfl,h1,h2,h3,h4⟩
 ·rcases hv with ⟨rfl,h1,rfl⟩ | ⟨rfl,h1 | h1,rfl⟩ | ⟨rfl,rfl,h1,h2⟩ | ⟨rfl,⟨h1,h2⟩,rfl⟩
  ·exact BC vn h1 w
  ·subst h1; exact Cb w
  ·subst h1; exact BH w
  ·exact BG vt h1 h2 w
  exact BA vn h1 h2 w
 ·simp only [] at h1 h2
  subst h1 h2
  exact BE a b hc w
 ·exact BF a b c d hc hne w
 ·exact BB w
 ·exact BD w
 ·exact Bz op h1 h2 w
 exact Bf fn k w
def Cc (p:Nd) (i k:Nat):Bool:=if p.kind≠7 then decide (k≠3) else if 46≤p.fn then decide (k=3∨k=2) else (decide (k≠3) || cE p.fn i)
theorem A8 (p n:Nd) (i:Nat) (w:World) :
  Calls prog 194 #[ndA p,.int .i64 (i:Nat),ndA n] w fun e w'=>e=.returned (.bool (Cc p i n.kind))∧Below w.heap.size w w':=by
 obtain ⟨pk,pvk,pvn,pvt,⟨p1,p2,p3,p4⟩,pop,pfn,pn⟩:=p
 obtain ⟨nk,nvk,nvn,nvt,⟨n1,n2,n3,n4⟩,nop,nfn,nn⟩:=n
 unfold ndA du
 simp only []
 obtain ⟨R,hR⟩:=ex (Cc ⟨pk,pvk,pvn,pvt,⟨p1,p2,p3,p4⟩,pop,pfn,pn⟩ i nk)
 rw [hR]
 unfold Cc at hR
 simp only [] at hR
 have HR:=keep hR
 clear hR
 by_cases h7:pk≠7
 ·by_cases h3:nk=3
  ·have hR:=HR.out
   rw [if_pos h7,decide_eq_false (by omega)] at hR
   subst hR
   clear HR
   subst h3
   have e7:((pk:Int) != 7)=true:=by simp; omega
   have H1:=Lib.hid (((Ok.start w).alloc w.heap.size 39 [.int .u8 pk,.int .u8 pvk,.int .i64 pvn,.string ⟨pvt.toArray⟩,.int .i64 p1,.int .i64 p2,.int .i64 p3,.int .i64 p4,.int .i64 pop,.int .u8 pfn,.int .i64 (pn:Nat)] rfl).alloc (w.heap.size+1) 39 [.int .u8 3,.int .u8 nvk,.int .i64 nvn,.string ⟨nvt.toArray⟩,.int .i64 n1,.int .i64 n2,.int .i64 n3,.int .i64 n4,.int .i64 nop,.int .u8 nfn,.int .i64 (nn:Nat)] (by simp))
   go_enter func194,ntmps194
   go_wp2_with fail
   generalize ((w.alloc (.cells #[.int .u8 pk,.int .u8 pvk,.int .i64 pvn,.string ⟨pvt.toArray⟩,.int .i64 p1,.int .i64 p2,.int .i64 p3,.int .i64 p4,.int .i64 pop,.int .u8 pfn,.int .i64 (pn:Nat)] 39)).alloc (.cells #[.int .u8 3,.int .u8 nvk,.int .i64 nvn,.string ⟨nvt.toArray⟩,.int .i64 n1,.int .i64 n2,.int .i64 n3,.int .i64 n4,.int .i64 nop,.int .u8 nfn,.int .i64 (nn:Nat)] 39))=W2 at H1 ⊢
   go_ret
   exact ⟨by first | rfl | simp,H1.out.bel⟩
  have hR:=HR.out
  rw [if_pos h7,decide_eq_true h3] at hR
  subst hR
  clear HR
  have e7:((pk:Int) != 7)=true:=by simp; omega
  have e3:((nk:Int) != 3)=true:=by simp; omega
  have H1:=Lib.hid (((Ok.start w).alloc w.heap.size 39 [.int .u8 pk,.int .u8 pvk,.int .i64 pvn,.string ⟨pvt.toArray⟩,.int .i64 p1,.int .i64 p2,.int .i64 p3,.int .i64 p4,.int .i64 pop,.int .u8 pfn,.int .i64 (pn:Nat)] rfl).alloc (w.heap.size+1) 39 [.int .u8 nk,.int .u8 nvk,.int .i64 nvn,.string ⟨nvt.toArray⟩,.int .i64 n1,.int .i64 n2,.int .i64 n3,.int .i64 n4,.int .i64 nop,.int .u8 nfn,.int .i64 (nn:Nat)] (by simp))
  go_enter func194,ntmps194
  go_wp2_with fail
  generalize ((w.alloc (.cells #[.int .u8 pk,.int .u8 pvk,.int .i64 pvn,.string ⟨pvt.toArray⟩,.int .i64 p1,.int .i64 p2,.int .i64 p3,.int .i64 p4,.int .i64 pop,.int .u8 pfn,.int .i64 (pn:Nat)] 39)).alloc (.cells #[.int .u8 nk,.int .u8 nvk,.int .i64 nvn,.string ⟨nvt.toArray⟩,.int .i64 n1,.int .i64 n2,.int .i64 n3,.int .i64 n4,.int .i64 nop,.int .u8 nfn,.int .i64 (nn:Nat)] 39))=W2 at H1 ⊢
  go_ret
  exact ⟨by first | rfl | simp,H1.out.bel⟩
 by_cases h46:46≤pfn
 ·by_cases h3:nk=3
  ·have hR:=HR.out
   rw [if_neg h7,if_pos h46,decide_eq_true (.inl h3)] at hR
   subst hR
   clear HR
   obtain rfl:pk=7:=by omega
   subst h3
   have e46:(46:Int)≤(pfn:Int):=by omega
   have H1:=Lib.hid (((Ok.start w).alloc w.heap.size 39 [.int .u8 7,.int .u8 pvk,.int .i64 pvn,.string ⟨pvt.toArray⟩,.int .i64 p1,.int .i64 p2,.int .i64 p3,.int .i64 p4,.int .i64 pop,.int .u8 pfn,.int .i64 (pn:Nat)] rfl).alloc (w.heap.size+1) 39 [.int .u8 3,.int .u8 nvk,.int .i64 nvn,.string ⟨nvt.toArray⟩,.int .i64 n1,.int .i64 n2,.int .i64 n3,.int .i64 n4,.int .i64 nop,.int .u8 nfn,.int .i64 (nn:Nat)] (by simp))
   go_enter func194,ntmps194
   go_wp2_with fail
   generalize ((w.alloc (.cells #[.int .u8 7,.int .u8 pvk,.int .i64 pvn,.string ⟨pvt.toArray⟩,.int .i64 p1,.int .i64 p2,.int .i64 p3,.int .i64 p4,.int .i64 pop,.int .u8 pfn,.int .i64 (pn:Nat)] 39)).alloc (.cells #[.int .u8 3,.int .u8 nvk,.int .i64 nvn,.string ⟨nvt.toArray⟩,.int .i64 n1,.int .i64 n2,.int .i64 n3,.int .i64 n4,.int .i64 nop,.int .u8 nfn,.int .i64 (nn:Nat)] 39))=W2 at H1 ⊢
   go_ret
   exact ⟨by first | rfl | simp,H1.out.bel⟩
  by_cases h2:nk=2
  ·have hR:=HR.out
   rw [if_neg h7,if_pos h46,decide_eq_true (.inr h2)] at hR
   subst hR
   clear HR
   obtain rfl:pk=7:=by omega
   subst h2
   have e46:(46:Int)≤(pfn:Int):=by omega
   have H1:=Lib.hid (((Ok.start w).alloc w.heap.size 39 [.int .u8 7,.int .u8 pvk,.int .i64 pvn,.string ⟨pvt.toArray⟩,.int .i64 p1,.int .i64 p2,.int .i64 p3,.int .i64 p4,.int .i64 pop,.int .u8 pfn,.int .i64 (pn:Nat)] rfl).alloc (w.heap.size+1) 39 [.int .u8 2,.int .u8 nvk,.int .i64 nvn,.string ⟨nvt.toArray⟩,.int .i64 n1,.int .i64 n2,.int .i64 n3,.int .i64 n4,.int .i64 nop,.int .u8 nfn,.int .i64 (nn:Nat)] (by simp))
   go_enter func194,ntmps194
   go_wp2_with fail
   generalize ((w.alloc (.cells #[.int .u8 7,.int .u8 pvk,.int .i64 pvn,.string ⟨pvt.toArray⟩,.int .i64 p1,.int .i64 p2,.int .i64 p3,.int .i64 p4,.int .i64 pop,.int .u8 pfn,.int .i64 (pn:Nat)] 39)).alloc (.cells #[.int .u8 2,.int .u8 nvk,.int .i64 nvn,.string ⟨nvt.toArray⟩,.int .i64 n1,.int .i64 n2,.int .i64 n3,.int .i64 n4,.int .i64 nop,.int .u8 nfn,.int .i64 (nn:Nat)] 39))=W2 at H1 ⊢
   go_ret
   exact ⟨by first | rfl | simp,H1.out.bel⟩
  have hR:=HR.out
  rw [if_neg h7,if_pos h46,decide_eq_false (by omega)] at hR
  subst hR
  clear HR
  obtain rfl:pk=7:=by omega
  have e46:(46:Int)≤(pfn:Int):=by omega
  have e3:((nk:Int) == 3)=false:=by simp; omega
  have e2:((nk:Int) == 2)=false:=by simp; omega
  have H1:=Lib.hid (((Ok.start w).alloc w.heap.size 39 [.int .u8 7,.int .u8 pvk,.int .i64 pvn,.string ⟨pvt.toArray⟩,.int .i64 p1,.int .i64 p2,.int .i64 p3,.int .i64 p4,.int .i64 pop,.int .u8 pfn,.int .i64 (pn:Nat)] rfl).alloc (w.heap.size+1) 39 [.int .u8 nk,.int .u8 nvk,.int .i64 nvn,.string ⟨nvt.toArray⟩,.int .i64 n1,.int .i64 n2,.int .i64 n3,.int .i64 n4,.int .i64 nop,.int .u8 nfn,.int .i64 (nn:Nat)] (by simp))
  go_enter func194,ntmps194
  go_wp2_with fail
  generalize ((w.alloc (.cells #[.int .u8 7,.int .u8 pvk,.int .i64 pvn,.string ⟨pvt.toArray⟩,.int .i64 p1,.int .i64 p2,.int .i64 p3,.int .i64 p4,.int .i64 pop,.int .u8 pfn,.int .i64 (pn:Nat)] 39)).alloc (.cells #[.int .u8 nk,.int .u8 nvk,.int .i64 nvn,.string ⟨nvt.toArray⟩,.int .i64 n1,.int .i64 n2,.int .i64 n3,.int .i64 n4,.int .i64 nop,.int .u8 nfn,.int .i64 (nn:Nat)] 39))=W2 at H1 ⊢
  go_ret
  exact ⟨by first | rfl | simp,H1.out.bel⟩
 by_cases h3:nk=3
 ·have hR:=HR.out
  rw [if_neg h7,if_neg h46,decide_eq_false (by omega),Bool.false_or] at hR
  subst hR
  clear HR
  obtain rfl:pk=7:=by omega
  subst h3
  have e46:¬ (46:Int)≤(pfn:Int):=by omega
  have H1:=Lib.hid (((Ok.start w).alloc w.heap.size 39 [.int .u8 7,.int .u8 pvk,.int .i64 pvn,.string ⟨pvt.toArray⟩,.int .i64 p1,.int .i64 p2,.int .i64 p3,.int .i64 p4,.int .i64 pop,.int .u8 pfn,.int .i64 (pn:Nat)] rfl).alloc (w.heap.size+1) 39 [.int .u8 3,.int .u8 nvk,.int .i64 nvn,.string ⟨nvt.toArray⟩,.int .i64 n1,.int .i64 n2,.int .i64 n3,.int .i64 n4,.int .i64 nop,.int .u8 nfn,.int .i64 (nn:Nat)] (by simp))
  go_enter func194,ntmps194
  go_wp2_with fail
  generalize ((w.alloc (.cells #[.int .u8 7,.int .u8 pvk,.int .i64 pvn,.string ⟨pvt.toArray⟩,.int .i64 p1,.int .i64 p2,.int .i64 p3,.int .i64 p4,.int .i64 pop,.int .u8 pfn,.int .i64 (pn:Nat)] 39)).alloc (.cells #[.int .u8 3,.int .u8 nvk,.int .i64 nvn,.string ⟨nvt.toArray⟩,.int .i64 n1,.int .i64 n2,.int .i64 n3,.int .i64 n4,.int .i64 nop,.int .u8 nfn,.int .i64 (nn:Nat)] 39))=W2 at H1 ⊢
  refine (Bm pfn i _).mono ?_
  rintro e w5 ⟨rfl,hw⟩
  obtain rfl:W2=w5:=hw.symm
  have F3:=sE H1
  go_wp2_with fail
  go_ret
  exact ⟨by first | rfl | simp,H1.out.bel⟩
 have hR:=HR.out
 rw [if_neg h7,if_neg h46,decide_eq_true h3,Bool.true_or] at hR
 subst hR
 clear HR
 obtain rfl:pk=7:=by omega
 have e46:¬ (46:Int)≤(pfn:Int):=by omega
 have e3:((nk:Int) != 3)=true:=by simp; omega
 have H1:=Lib.hid (((Ok.start w).alloc w.heap.size 39 [.int .u8 7,.int .u8 pvk,.int .i64 pvn,.string ⟨pvt.toArray⟩,.int .i64 p1,.int .i64 p2,.int .i64 p3,.int .i64 p4,.int .i64 pop,.int .u8 pfn,.int .i64 (pn:Nat)] rfl).alloc (w.heap.size+1) 39 [.int .u8 nk,.int .u8 nvk,.int .i64 nvn,.string ⟨nvt.toArray⟩,.int .i64 n1,.int .i64 n2,.int .i64 n3,.int .i64 n4,.int .i64 nop,.int .u8 nfn,.int .i64 (nn:Nat)] (by simp))
 go_enter func194,ntmps194
 go_wp2_with fail
 generalize ((w.alloc (.cells #[.int .u8 7,.int .u8 pvk,.int .i64 pvn,.string ⟨pvt.toArray⟩,.int .i64 p1,.int .i64 p2,.int .i64 p3,.int .i64 p4,.int .i64 pop,.int .u8 pfn,.int .i64 (pn:Nat)] 39)).alloc (.cells #[.int .u8 nk,.int .u8 nvk,.int .i64 nvn,.string ⟨nvt.toArray⟩,.int .i64 n1,.int .i64 n2,.int .i64 n3,.int .i64 n4,.int .i64 nop,.int .u8 nfn,.int .i64 (nn:Nat)] 39))=W2 at H1 ⊢
 go_ret
 exact ⟨by first | rfl | simp,H1.out.bel⟩
