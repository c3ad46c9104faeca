/- Contracts of glyph.Check, val.Check and tree.fields, at what a formula may hold. -/
import Derived.Test.YtdplcdhpnmcdjaaGreatDoorELexI
import Derived.Test.YtdplcdhpnmcdjaaGreatDoorETg
import Derived.Test.YtdplcdhpnmcdjaaGreatDoorEParP
import Derived.Test.YtdplcdhpnmcdjaaGreatDoorEParA
import Derived.Test.YtdplcdhpnmcdjaaGreatDoorEParB
import Derived.Test.YtdplcdhpnmcdjaaGreatDoorEAddP6
import Derived.Test.YtdplcdhpnmcdjaaGreatDoorEAddrP
import Derived.Deep.DeepCutAuto
namespace Go.Proofs.YtdplcdhpnmcdjaaGreatDoor
set_option maxRecDepth 100000
set_option maxHeartbeats 4000000
open Go.RowKit Go.Proofs.Tryz
theorem jz (s:ByteArray) (w:World) (hs:s.size≤256) (hp:s.data.toList.all aj=true) :
  Calls prog 71 #[.string s] w fun e w'=>e=.returned (.int .i64 0)∧Below w.heap.size w w':=by
 have hi:¬ (s.size:Int)>256:=by omega
 have HP:=keep hp
 clear hp
 go_enter func71,ntmps71
 go_wp2_with fail
 refine (dq s _ (by omega)).mono ?_
 rintro e w1 ⟨rfl,hb⟩
 rw [HP.out]
 have HB:=Lib.hid hb
 clear hb
 go_wp2_with fail
 go_ret
 exact ⟨rfl,HB.out⟩
def eW (vk:Nat) (vn:Int) (vt:List UInt8):Prop :=
 (vk=1∧0≤vn∧vt=[])∨(vk=2∧(vn=0∨vn=1)∧vt=[])∨(vk=3∧vn=0∧vt.length≤256∧vt.all aj=true)∨(vk=4∧(1≤vn∧vn≤5)∧vt=[])
theorem pN (n:Int) (h:0≤n) (w:World) :
  Calls prog 37 #[.agg #[.int .u8 1,.int .i64 n,.string ⟨#[]⟩]] w fun e w'=>e=.returned (.int .i64 0)∧Below w.heap.size w w':=by
 have H1:=Lib.hid ((Ok.start w).alloc w.heap.size 35 [.int .u8 1,.int .i64 n,.string ⟨#[]⟩] rfl)
 have hne:(n != -9223372036854775808)=true:=by simp; omega
 go_enter func37,ntmps37
 go_wp2_with fail
 generalize (w.alloc (.cells #[.int .u8 1,.int .i64 n,.string ⟨#[]⟩] 35))=W2 at H1 ⊢
 go_ret
 exact ⟨rfl,H1.out.bel⟩
theorem qY  (w:World) :
  Calls prog 37 #[.agg #[.int .u8 2,.int .i64 0,.string ⟨#[]⟩]] w fun e w'=>e=.returned (.int .i64 0)∧Below w.heap.size w w':=by
 have H1:=Lib.hid ((Ok.start w).alloc w.heap.size 35 [.int .u8 2,.int .i64 0,.string ⟨#[]⟩] rfl)
 go_enter func37,ntmps37
 go_wp2_with fail
 generalize (w.alloc (.cells #[.int .u8 2,.int .i64 0,.string ⟨#[]⟩] 35))=W2 at H1 ⊢
 go_ret
 exact ⟨rfl,H1.out.bel⟩
theorem pP  (w:World) :
  Calls prog 37 #[.agg #[.int .u8 2,.int .i64 1,.string ⟨#[]⟩]] w fun e w'=>e=.returned (.int .i64 0)∧Below w.heap.size w w':=by
 have H1:=Lib.hid ((Ok.start w).alloc w.heap.size 35 [.int .u8 2,.int .i64 1,.string ⟨#[]⟩] rfl)
 go_enter func37,ntmps37
 go_wp2_with fail
 generalize (w.alloc (.cells #[.int .u8 2,.int .i64 1,.string ⟨#[]⟩] 35))=W2 at H1 ⊢
 go_ret
 exact ⟨rfl,H1.out.bel⟩
theorem pO (t:List UInt8) (h:t.length≤256) (hp:t.all aj=true) (w:World) :
  Calls prog 37 #[.agg #[.int .u8 3,.int .i64 0,.string ⟨t.toArray⟩]] w fun e w'=>e=.returned (.int .i64 0)∧Below w.heap.size w w':=by
 have H1:=Lib.hid ((Ok.start w).alloc w.heap.size 35 [.int .u8 3,.int .i64 0,.string ⟨t.toArray⟩] rfl)
 go_enter func37,ntmps37
 go_wp2_with fail
 generalize (w.alloc (.cells #[.int .u8 3,.int .i64 0,.string ⟨t.toArray⟩] 35))=W2 at H1 ⊢
 refine cM (jz ⟨t.toArray⟩ _ h hp) H1 fun w3 H5=>?_
 clear H1
 have F6:=sE H5
 go_wp2_with fail
 go_ret
 exact ⟨rfl,H5.out.bel⟩
theorem nB  (w:World) :
  Calls prog 137 #[.agg #[.int .u8 4,.int .u8 0,.int .i64 0,.string ⟨#[]⟩,.int .i64 0,.int .i64 0,.int .i64 0,.int .i64 0,.int .i64 0,.int .u8 0,.int .i64 0]] w fun e w'=>e=.returned (.int .i64 0)∧Below w.heap.size w w':=by
 have H1:=Lib.hid ((Ok.start w).alloc w.heap.size 39 [.int .u8 4,.int .u8 0,.int .i64 0,.string ⟨#[]⟩,.int .i64 0,.int .i64 0,.int .i64 0,.int .i64 0,.int .i64 0,.int .u8 0,.int .i64 0] rfl)
 go_enter func137,ntmps137
 go_wp2_with fail
 generalize (w.alloc (.cells #[.int .u8 4,.int .u8 0,.int .i64 0,.string ⟨#[]⟩,.int .i64 0,.int .i64 0,.int .i64 0,.int .i64 0,.int .i64 0,.int .u8 0,.int .i64 0] 39))=W2 at H1 ⊢
 go_ret
 exact ⟨rfl,(H1.out.alloc_obj _).bel⟩
theorem nD  (w:World) :
  Calls prog 137 #[.agg #[.int .u8 5,.int .u8 0,.int .i64 0,.string ⟨#[]⟩,.int .i64 0,.int .i64 0,.int .i64 0,.int .i64 0,.int .i64 0,.int .u8 0,.int .i64 0]] w fun e w'=>e=.returned (.int .i64 0)∧Below w.heap.size w w':=by
 have H1:=Lib.hid ((Ok.start w).alloc w.heap.size 39 [.int .u8 5,.int .u8 0,.int .i64 0,.string ⟨#[]⟩,.int .i64 0,.int .i64 0,.int .i64 0,.int .i64 0,.int .i64 0,.int .u8 0,.int .i64 0] rfl)
 go_enter func137,ntmps137
 go_wp2_with fail
 generalize (w.alloc (.cells #[.int .u8 5,.int .u8 0,.int .i64 0,.string ⟨#[]⟩,.int .i64 0,.int .i64 0,.int .i64 0,.int .i64 0,.int .i64 0,.int .u8 0,.int .i64 0] 39))=W2 at H1 ⊢
 go_ret
 exact ⟨rfl,(H1.out.alloc_obj _).bel⟩
theorem ny (op:Int) (h1:1≤op) (h2:op≤12) (w:World) :
  Calls prog 137 #[.agg #[.int .u8 6,.int .u8 0,.int .i64 0,.string ⟨#[]⟩,.int .i64 0,.int .i64 0,.int .i64 0,.int .i64 0,.int .i64 op,.int .u8 0,.int .i64 0]] w fun e w'=>e=.returned (.int .i64 0)∧Below w.heap.size w w':=by
 have H1:=Lib.hid ((Ok.start w).alloc w.heap.size 39 [.int .u8 6,.int .u8 0,.int .i64 0,.string ⟨#[]⟩,.int .i64 0,.int .i64 0,.int .i64 0,.int .i64 0,.int .i64 op,.int .u8 0,.int .i64 0] rfl)
 go_enter func137,ntmps137
 go_wp2_with fail
 generalize (w.alloc (.cells #[.int .u8 6,.int .u8 0,.int .i64 0,.string ⟨#[]⟩,.int .i64 0,.int .i64 0,.int .i64 0,.int .i64 0,.int .i64 op,.int .u8 0,.int .i64 0] 39))=W2 at H1 ⊢
 go_ret
 exact ⟨rfl,(H1.out.alloc_obj _).bel⟩
theorem nC (n:Int) (h:0≤n) (w:World) :
  Calls prog 137 #[.agg #[.int .u8 1,.int .u8 1,.int .i64 n,.string ⟨#[]⟩,.int .i64 0,.int .i64 0,.int .i64 0,.int .i64 0,.int .i64 0,.int .u8 0,.int .i64 0]] w fun e w'=>e=.returned (.int .i64 0)∧Below w.heap.size w w':=by
 have H1:=Lib.hid (((Ok.start w).alloc w.heap.size 39 [.int .u8 1,.int .u8 1,.int .i64 n,.string ⟨#[]⟩,.int .i64 0,.int .i64 0,.int .i64 0,.int .i64 0,.int .i64 0,.int .u8 0,.int .i64 0] rfl).alloc (w.heap.size+1) 39 [.int .u8 1,.int .u8 1,.int .i64 n,.string ⟨#[]⟩,.int .i64 0,.int .i64 0,.int .i64 0,.int .i64 0,.int .i64 0,.int .u8 0,.int .i64 0] (by simp))
 go_enter func137,ntmps137
 go_wp2_with fail
 generalize ((w.alloc (.cells #[.int .u8 1,.int .u8 1,.int .i64 n,.string ⟨#[]⟩,.int .i64 0,.int .i64 0,.int .i64 0,.int .i64 0,.int .i64 0,.int .u8 0,.int .i64 0] 39)).alloc (.cells #[.int .u8 1,.int .u8 1,.int .i64 n,.string ⟨#[]⟩,.int .i64 0,.int .i64 0,.int .i64 0,.int .i64 0,.int .i64 0,.int .u8 0,.int .i64 0] 39))=W2 at H1 ⊢
 refine cM (pN n h _) H1 fun w3 H5=>?_
 clear H1
 have F6:=sE H5
 go_wp2_with fail
 go_ret
 exact ⟨rfl,H5.out.bel⟩
theorem pY  (w:World) :
  Calls prog 137 #[.agg #[.int .u8 1,.int .u8 2,.int .i64 0,.string ⟨#[]⟩,.int .i64 0,.int .i64 0,.int .i64 0,.int .i64 0,.int .i64 0,.int .u8 0,.int .i64 0]] w fun e w'=>e=.returned (.int .i64 0)∧Below w.heap.size w w':=by
 have H1:=Lib.hid (((Ok.start w).alloc w.heap.size 39 [.int .u8 1,.int .u8 2,.int .i64 0,.string ⟨#[]⟩,.int .i64 0,.int .i64 0,.int .i64 0,.int .i64 0,.int .i64 0,.int .u8 0,.int .i64 0] rfl).alloc (w.heap.size+1) 39 [.int .u8 1,.int .u8 2,.int .i64 0,.string ⟨#[]⟩,.int .i64 0,.int .i64 0,.int .i64 0,.int .i64 0,.int .i64 0,.int .u8 0,.int .i64 0] (by simp))
 go_enter func137,ntmps137
 go_wp2_with fail
 generalize ((w.alloc (.cells #[.int .u8 1,.int .u8 2,.int .i64 0,.string ⟨#[]⟩,.int .i64 0,.int .i64 0,.int .i64 0,.int .i64 0,.int .i64 0,.int .u8 0,.int .i64 0] 39)).alloc (.cells #[.int .u8 1,.int .u8 2,.int .i64 0,.string ⟨#[]⟩,.int .i64 0,.int .i64 0,.int .i64 0,.int .i64 0,.int .i64 0,.int .u8 0,.int .i64 0] 39))=W2 at H1 ⊢
 refine cM (qY _) H1 fun w3 H5=>?_
 clear H1
 have F6:=sE H5
 go_wp2_with fail
 go_ret
 exact ⟨rfl,H5.out.bel⟩
theorem nH  (w:World) :
  Calls prog 137 #[.agg #[.int .u8 1,.int .u8 2,.int .i64 1,.string ⟨#[]⟩,.int .i64 0,.int .i64 0,.int .i64 0,.int .i64 0,.int .i64 0,.int .u8 0,.int .i64 0]] w fun e w'=>e=.returned (.int .i64 0)∧Below w.heap.size w w':=by
 have H1:=Lib.hid (((Ok.start w).alloc w.heap.size 39 [.int .u8 1,.int .u8 2,.int .i64 1,.string ⟨#[]⟩,.int .i64 0,.int .i64 0,.int .i64 0,.int .i64 0,.int .i64 0,.int .u8 0,.int .i64 0] rfl).alloc (w.heap.size+1) 39 [.int .u8 1,.int .u8 2,.int .i64 1,.string ⟨#[]⟩,.int .i64 0,.int .i64 0,.int .i64 0,.int .i64 0,.int .i64 0,.int .u8 0,.int .i64 0] (by simp))
 go_enter func137,ntmps137
 go_wp2_with fail
 generalize ((w.alloc (.cells #[.int .u8 1,.int .u8 2,.int .i64 1,.string ⟨#[]⟩,.int .i64 0,.int .i64 0,.int .i64 0,.int .i64 0,.int .i64 0,.int .u8 0,.int .i64 0] 39)).alloc (.cells #[.int .u8 1,.int .u8 2,.int .i64 1,.string ⟨#[]⟩,.int .i64 0,.int .i64 0,.int .i64 0,.int .i64 0,.int .i64 0,.int .u8 0,.int .i64 0] 39))=W2 at H1 ⊢
 refine cM (pP _) H1 fun w3 H5=>?_
 clear H1
 have F6:=sE H5
 go_wp2_with fail
 go_ret
 exact ⟨rfl,H5.out.bel⟩
theorem nG (t:List UInt8) (h:t.length≤256) (hp:t.all aj=true) (w:World) :
  Calls prog 137 #[.agg #[.int .u8 1,.int .u8 3,.int .i64 0,.string ⟨t.toArray⟩,.int .i64 0,.int .i64 0,.int .i64 0,.int .i64 0,.int .i64 0,.int .u8 0,.int .i64 0]] w fun e w'=>e=.returned (.int .i64 0)∧Below w.heap.size w w':=by
 have H1:=Lib.hid (((Ok.start w).alloc w.heap.size 39 [.int .u8 1,.int .u8 3,.int .i64 0,.string ⟨t.toArray⟩,.int .i64 0,.int .i64 0,.int .i64 0,.int .i64 0,.int .i64 0,.int .u8 0,.int .i64 0] rfl).alloc (w.heap.size+1) 39 [.int .u8 1,.int .u8 3,.int .i64 0,.string ⟨t.toArray⟩,.int .i64 0,.int .i64 0,.int .i64 0,.int .i64 0,.int .i64 0,.int .u8 0,.int .i64 0] (by simp))
 go_enter func137,ntmps137
 go_wp2_with fail
 generalize ((w.alloc (.cells #[.int .u8 1,.int .u8 3,.int .i64 0,.string ⟨t.toArray⟩,.int .i64 0,.int .i64 0,.int .i64 0,.int .i64 0,.int .i64 0,.int .u8 0,.int .i64 0] 39)).alloc (.cells #[.int .u8 1,.int .u8 3,.int .i64 0,.string ⟨t.toArray⟩,.int .i64 0,.int .i64 0,.int .i64 0,.int .i64 0,.int .i64 0,.int .u8 0,.int .i64 0] 39))=W2 at H1 ⊢
 refine cM (pO t h hp _) H1 fun w3 H5=>?_
 clear H1
 have F6:=sE H5
 go_wp2_with fail
 go_ret
 exact ⟨rfl,H5.out.bel⟩
theorem nA (c:Int) (h1:1≤c) (h2:c≤5) (w:World) :
  Calls prog 137 #[.agg #[.int .u8 1,.int .u8 4,.int .i64 c,.string ⟨#[]⟩,.int .i64 0,.int .i64 0,.int .i64 0,.int .i64 0,.int .i64 0,.int .u8 0,.int .i64 0]] w fun e w'=>e=.returned (.int .i64 0)∧Below w.heap.size w w':=by
 have H1:=Lib.hid (((Ok.start w).alloc w.heap.size 39 [.int .u8 1,.int .u8 4,.int .i64 c,.string ⟨#[]⟩,.int .i64 0,.int .i64 0,.int .i64 0,.int .i64 0,.int .i64 0,.int .u8 0,.int .i64 0] rfl).alloc (w.heap.size+1) 39 [.int .u8 1,.int .u8 4,.int .i64 c,.string ⟨#[]⟩,.int .i64 0,.int .i64 0,.int .i64 0,.int .i64 0,.int .i64 0,.int .u8 0,.int .i64 0] (by simp))
 go_enter func137,ntmps137
 go_wp2_with fail
 generalize ((w.alloc (.cells #[.int .u8 1,.int .u8 4,.int .i64 c,.string ⟨#[]⟩,.int .i64 0,.int .i64 0,.int .i64 0,.int .i64 0,.int .i64 0,.int .u8 0,.int .i64 0] 39)).alloc (.cells #[.int .u8 1,.int .u8 4,.int .i64 c,.string ⟨#[]⟩,.int .i64 0,.int .i64 0,.int .i64 0,.int .i64 0,.int .i64 0,.int .u8 0,.int .i64 0] 39))=W2 at H1 ⊢
 refine cM (kx c h1 (by omega) _) H1 fun w3 H5=>?_
 clear H1
 have F6:=sE H5
 go_wp2_with fail
 go_ret
 exact ⟨rfl,H5.out.bel⟩
theorem nF (c r:Int) (hc:aG ⟨c,r,c,r⟩=true) (w:World) :
  Calls prog 137 #[.agg #[.int .u8 2,.int .u8 0,.int .i64 0,.string ⟨#[]⟩,.int .i64 c,.int .i64 r,.int .i64 c,.int .i64 r,.int .i64 0,.int .u8 0,.int .i64 0]] w fun e w'=>e=.returned (.int .i64 0)∧Below w.heap.size w w':=by
 have HCE:=keep (bE hc)
 clear hc
 have H1:=Lib.hid (((Ok.start w).alloc w.heap.size 39 [.int .u8 2,.int .u8 0,.int .i64 0,.string ⟨#[]⟩,.int .i64 c,.int .i64 r,.int .i64 c,.int .i64 r,.int .i64 0,.int .u8 0,.int .i64 0] rfl).alloc (w.heap.size+1) 39 [.int .u8 2,.int .u8 0,.int .i64 0,.string ⟨#[]⟩,.int .i64 c,.int .i64 r,.int .i64 c,.int .i64 r,.int .i64 0,.int .u8 0,.int .i64 0] (by simp))
 go_enter func137,ntmps137
 go_wp2_with fail
 generalize ((w.alloc (.cells #[.int .u8 2,.int .u8 0,.int .i64 0,.string ⟨#[]⟩,.int .i64 c,.int .i64 r,.int .i64 c,.int .i64 r,.int .i64 0,.int .u8 0,.int .i64 0] 39)).alloc (.cells #[.int .u8 2,.int .u8 0,.int .i64 0,.string ⟨#[]⟩,.int .i64 c,.int .i64 r,.int .i64 c,.int .i64 r,.int .i64 0,.int .u8 0,.int .i64 0] 39))=W2 at H1 ⊢
 refine cM (bL c r c r _) H1 fun w3 H5=>?_
 rw [HCE.out]
 clear H1
 have F6:=sE H5
 go_wp2_with fail
 go_ret
 exact ⟨rfl,H5.out.bel⟩
theorem ki (a b c d:Int) (hc:aG ⟨a,b,c,d⟩=true) (hne:a≠c) (w:World) :
  Calls prog 137 #[.agg #[.int .u8 3,.int .u8 0,.int .i64 0,.string ⟨#[]⟩,.int .i64 a,.int .i64 b,.int .i64 c,.int .i64 d,.int .i64 0,.int .u8 0,.int .i64 0]] w fun e w'=>e=.returned (.int .i64 0)∧Below w.heap.size w w':=by
 have HCE:=keep (bE hc)
 clear hc
 have H1:=Lib.hid (((Ok.start w).alloc w.heap.size 39 [.int .u8 3,.int .u8 0,.int .i64 0,.string ⟨#[]⟩,.int .i64 a,.int .i64 b,.int .i64 c,.int .i64 d,.int .i64 0,.int .u8 0,.int .i64 0] rfl).alloc (w.heap.size+1) 39 [.int .u8 3,.int .u8 0,.int .i64 0,.string ⟨#[]⟩,.int .i64 a,.int .i64 b,.int .i64 c,.int .i64 d,.int .i64 0,.int .u8 0,.int .i64 0] (by simp))
 have hb:(a == c)=false:=by simpa using hne
 clear hne
 go_enter func137,ntmps137
 go_wp2_with fail
 generalize ((w.alloc (.cells #[.int .u8 3,.int .u8 0,.int .i64 0,.string ⟨#[]⟩,.int .i64 a,.int .i64 b,.int .i64 c,.int .i64 d,.int .i64 0,.int .u8 0,.int .i64 0] 39)).alloc (.cells #[.int .u8 3,.int .u8 0,.int .i64 0,.string ⟨#[]⟩,.int .i64 a,.int .i64 b,.int .i64 c,.int .i64 d,.int .i64 0,.int .u8 0,.int .i64 0] 39))=W2 at H1 ⊢
 refine cM (bL a b c d _) H1 fun w3 H5=>?_
 rw [HCE.out]
 clear H1
 have F6:=sE H5
 go_wp2_with fail
 go_ret
 exact ⟨rfl,H5.out.bel⟩
theorem kj (a b d:Int) (hc:aG ⟨a,b,a,d⟩=true) (hne:b≠d) (w:World) :
  Calls prog 137 #[.agg #[.int .u8 3,.int .u8 0,.int .i64 0,.string ⟨#[]⟩,.int .i64 a,.int .i64 b,.int .i64 a,.int .i64 d,.int .i64 0,.int .u8 0,.int .i64 0]] w fun e w'=>e=.returned (.int .i64 0)∧Below w.heap.size w w':=by
 have HCE:=keep (bE hc)
 clear hc
 have H1:=Lib.hid (((Ok.start w).alloc w.heap.size 39 [.int .u8 3,.int .u8 0,.int .i64 0,.string ⟨#[]⟩,.int .i64 a,.int .i64 b,.int .i64 a,.int .i64 d,.int .i64 0,.int .u8 0,.int .i64 0] rfl).alloc (w.heap.size+1) 39 [.int .u8 3,.int .u8 0,.int .i64 0,.string ⟨#[]⟩,.int .i64 a,.int .i64 b,.int .i64 a,.int .i64 d,.int .i64 0,.int .u8 0,.int .i64 0] (by simp))
 have hb:(b == d)=false:=by simpa using hne
 clear hne
 go_enter func137,ntmps137
 go_wp2_with fail
 generalize ((w.alloc (.cells #[.int .u8 3,.int .u8 0,.int .i64 0,.string ⟨#[]⟩,.int .i64 a,.int .i64 b,.int .i64 a,.int .i64 d,.int .i64 0,.int .u8 0,.int .i64 0] 39)).alloc (.cells #[.int .u8 3,.int .u8 0,.int .i64 0,.string ⟨#[]⟩,.int .i64 a,.int .i64 b,.int .i64 a,.int .i64 d,.int .i64 0,.int .u8 0,.int .i64 0] 39))=W2 at H1 ⊢
 refine cM (bL a b a d _) H1 fun w3 H5=>?_
 rw [HCE.out]
 clear H1
 have F6:=sE H5
 go_wp2_with fail
 go_ret
 exact ⟨rfl,H5.out.bel⟩
theorem l8 (fn k:Nat) (h1:1≤fn) (h2:fn≤50) (hk1:(arS fn).1≤k) (hk2:k≤(arS fn).2) (w:World) :
  Calls prog 137 #[.agg #[.int .u8 7,.int .u8 0,.int .i64 0,.string ⟨#[]⟩,.int .i64 0,.int .i64 0,.int .i64 0,.int .i64 0,.int .i64 0,.int .u8 (fn:Nat),.int .i64 (k:Nat)]] w fun e w'=>e=.returned (.int .i64 0)∧Below w.heap.size w w':=by
 have g1:¬ ((k:Nat):Int)<((arS fn).1:Nat):=by omega
 have g2:¬ ((k:Nat):Int)>((arS fn).2:Nat):=by omega
 have H1:=Lib.hid (((Ok.start w).alloc w.heap.size 39 [.int .u8 7,.int .u8 0,.int .i64 0,.string ⟨#[]⟩,.int .i64 0,.int .i64 0,.int .i64 0,.int .i64 0,.int .i64 0,.int .u8 (fn:Nat),.int .i64 (k:Nat)] rfl).var (w.heap.size+1) 39 [.int .u8 7,.int .u8 0,.int .i64 0,.string ⟨#[]⟩,.int .i64 0,.int .i64 0,.int .i64 0,.int .i64 0,.int .i64 0,.int .u8 0,.int .i64 0] (by simp))
 go_enter func137,ntmps137
 go_wp2_with fail
 generalize ((w.alloc (.cells #[.int .u8 7,.int .u8 0,.int .i64 0,.string ⟨#[]⟩,.int .i64 0,.int .i64 0,.int .i64 0,.int .i64 0,.int .i64 0,.int .u8 (fn:Nat),.int .i64 (k:Nat)] 39)).alloc (.cells #[.int .u8 7,.int .u8 0,.int .i64 0,.string ⟨#[]⟩,.int .i64 0,.int .i64 0,.int .i64 0,.int .i64 0,.int .i64 0,.int .u8 0,.int .i64 0] 39))=W2 at H1 ⊢
 have F3:=sE H1
 go_region
 clear F3
 have hfar:∀ x∈[ac (w.heap.size) 39 [.int .u8 7,.int .u8 0,.int .i64 0,.string ⟨#[]⟩,.int .i64 0,.int .i64 0,.int .i64 0,.int .i64 0,.int .i64 0,.int .u8 (fn:Nat),.int .i64 (k:Nat)]],x.far (some (w.heap.size+1)):=by
  intro x hx
  simp at hx
  subst hx
  show some w.heap.size≠some (w.heap.size+1)
  simp
 have H5:=Lib.hid (((H1.out.set_ (i:=9) (u:=.int .u8 (fn:Nat)) (by omega) hfar).set_ (i:=10) (u:=.int .i64 (k:Nat)) (by omega) hfar).drew)
 clear hfar H1
 have H6:Hid (Ok w [af (w.heap.size+1) 39 [.int .u8 7,.int .u8 0,.int .i64 0,.string ⟨#[]⟩,.int .i64 0,.int .i64 0,.int .i64 0,.int .i64 0,.int .i64 0,.int .u8 (fn:Nat),.int .i64 (k:Nat)],ac (w.heap.size) 39 [.int .u8 7,.int .u8 0,.int .i64 0,.string ⟨#[]⟩,.int .i64 0,.int .i64 0,.int .i64 0,.int .i64 0,.int .i64 0,.int .u8 (fn:Nat),.int .i64 (k:Nat)]] (((W2.setCell ⟨w.heap.size+1,9,none⟩ (.int .u8 (fn:Nat))).setCell ⟨w.heap.size+1,10,none⟩ (.int .i64 (k:Nat))).drew)):=H5
 clear H5
 generalize ((W2.setCell ⟨w.heap.size+1,9,none⟩ (.int .u8 (fn:Nat))).setCell ⟨w.heap.size+1,10,none⟩ (.int .i64 (k:Nat))).drew=W9 at H6 ⊢
 have F4:=sE H6
 go_wp2_with fail
 refine (cw fn _ h1 h2).mono ?_
 rintro e w5 ⟨rfl,hw⟩
 obtain rfl:W9=w5:=hw.symm
 go_wp2_with fail
 go_ret
 exact ⟨rfl,H6.out.bel⟩
def aL (n:Nd):Prop :=
 (∃ vk vn vt,n=⟨1,vk,vn,vt,R4.zero,0,0,0⟩∧eW vk vn vt)∨(∃ r,n=eu r∧aG r=true∧r.c1=r.c2∧r.r1=r.r2)∨(∃ r,n=cj r∧aG r=true∧¬ (r.c1=r.c2∧r.r1=r.r2)) ∨
 n=fz∨n=dt∨(∃ op,n=cN op∧1≤op∧op≤12)∨∃ fn k,n=da fn k∧1≤fn∧fn≤50∧(arS fn).1≤k∧k≤(arS fn).2
theorem mY (n:Nd) (h:aL n) (w:World) :
  Calls prog 137 #[ndA n] w fun e w'=>e=.returned (.int .i64 0)∧Below w.heap.size w w':=by
 rcases h with ⟨vk,vn,vt,rfl,hv⟩ | ⟨⟨a,b,c,d⟩,rfl,hc,h1,h2⟩ | ⟨⟨a,b,c,d⟩,rfl,hc,hne⟩ | rfl | rfl | ⟨op,rfl,h1,h2⟩ | ⟨fn,k,rfl,h1,h2,h3,h4⟩
 ·rcases hv with ⟨rfl,h1,rfl⟩ | ⟨rfl,h1 | h1,rfl⟩ | ⟨rfl,rfl,h1,h2⟩ | ⟨rfl,⟨h1,h2⟩,rfl⟩
  ·exact nC vn h1 w
  ·subst h1; exact pY w
  ·subst h1; exact nH w
  ·exact nG vt h1 h2 w
  exact nA vn h1 h2 w
 ·simp only [] at h1 h2
  subst h1 h2
  exact nF a b hc w
 ·simp only [] at hne
  by_cases h1:a=c
  ·subst h1
   exact kj a b d hc (fun h=>hne ⟨rfl,h⟩) w
  exact ki a b c d hc h1 w
 ·exact nB w
 ·exact nD w
 ·exact ny op h1 h2 w
 exact l8 fn k h1 h2 h3 h4 w
