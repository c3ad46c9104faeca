/- Contracts of glyph.Check, val.Check and tree.fields, at what a formula may hold. The parser's methods: what parsing comes to, by induction on the fuel. -/
import Derived.Test.YtfffihcadhfplaaGreatDoorPLexI
import Derived.Test.YtfffihcadhfplaaGreatDoorPVal
import Derived.Test.YtfffihcadhfplaaGreatDoorPParA
import Derived.Test.YtfffihcadhfplaaGreatDoorPParB
import Derived.Test.YtfffihcadhfplaaGreatDoorPAddP6
import Derived.Test.YtfffihcadhfplaaGreatDoorPIterV
import Derived.Deep.DeepCutAuto
import Derived.Deep.LoopGhost
namespace Go.Proofs.YtfffihcadhfplaaGreatDoor
set_option maxRecDepth 100000
set_option maxHeartbeats 4000000
open Go.RowKit
theorem glyph_Check_ok (s:ByteArray) (w:World) (hs:s.size≤256) (hp:s.data.toList.all plainB=true) :
  Calls Tryz.prog 24 #[.string s] w fun e w'=>e=.returned (.int .i64 0)∧Below w.heap.size w w':=by
 have hi:¬ (s.size:Int)>256:=by omega
 have HP:=keep hp
 clear hp
 go_enter Tryz.func24,Tryz.ntmps24
 go_wp2_with fail
 refine (glyph_printable s _ (by omega)).mono ?_
 rintro e w1 ⟨rfl,hb⟩
 rw [HP.out]
 have HB:=Lib.hid hb
 clear hb
 go_wp2_with fail
 go_ret
 exact ⟨rfl,HB.out⟩
def goodV (vk:Nat) (vn:Int) (vt:List UInt8):Prop :=
 (vk=1∧0≤vn∧vt=[])∨(vk=2∧(vn=0∨vn=1)∧vt=[])∨(vk=3∧vn=0∧vt.length≤256∧vt.all plainB=true)∨(vk=4∧(1≤vn∧vn≤5)∧vt=[])
theorem check_num (n:Int) (h:0≤n) (w:World) :
  Calls Tryz.prog 14 #[.agg #[.int .u8 1,.int .i64 n,.string ⟨#[]⟩]] w fun e w'=>e=.returned (.int .i64 0)∧Below w.heap.size w w':=by
 have H1:=Lib.hid ((Ok.start w).alloc w.heap.size 23 [.int .u8 1,.int .i64 n,.string ⟨#[]⟩] rfl)
 have hne:(n != -9223372036854775808)=true:=by simp; omega
 go_enter Tryz.func14,Tryz.ntmps14
 go_wp2_with fail
 generalize (w.alloc (.cells #[.int .u8 1,.int .i64 n,.string ⟨#[]⟩] 23))=W2 at H1 ⊢
 go_ret
 exact ⟨rfl,H1.out.bel⟩
theorem check_no  (w:World) :
  Calls Tryz.prog 14 #[.agg #[.int .u8 2,.int .i64 0,.string ⟨#[]⟩]] w fun e w'=>e=.returned (.int .i64 0)∧Below w.heap.size w w':=by
 have H1:=Lib.hid ((Ok.start w).alloc w.heap.size 23 [.int .u8 2,.int .i64 0,.string ⟨#[]⟩] rfl)
 go_enter Tryz.func14,Tryz.ntmps14
 go_wp2_with fail
 generalize (w.alloc (.cells #[.int .u8 2,.int .i64 0,.string ⟨#[]⟩] 23))=W2 at H1 ⊢
 go_ret
 exact ⟨rfl,H1.out.bel⟩
theorem check_yes  (w:World) :
  Calls Tryz.prog 14 #[.agg #[.int .u8 2,.int .i64 1,.string ⟨#[]⟩]] w fun e w'=>e=.returned (.int .i64 0)∧Below w.heap.size w w':=by
 have H1:=Lib.hid ((Ok.start w).alloc w.heap.size 23 [.int .u8 2,.int .i64 1,.string ⟨#[]⟩] rfl)
 go_enter Tryz.func14,Tryz.ntmps14
 go_wp2_with fail
 generalize (w.alloc (.cells #[.int .u8 2,.int .i64 1,.string ⟨#[]⟩] 23))=W2 at H1 ⊢
 go_ret
 exact ⟨rfl,H1.out.bel⟩
theorem check_txt (t:List UInt8) (h:t.length≤256) (hp:t.all plainB=true) (w:World) :
  Calls Tryz.prog 14 #[.agg #[.int .u8 3,.int .i64 0,.string ⟨t.toArray⟩]] w fun e w'=>e=.returned (.int .i64 0)∧Below w.heap.size w w':=by
 have H1:=Lib.hid ((Ok.start w).alloc w.heap.size 23 [.int .u8 3,.int .i64 0,.string ⟨t.toArray⟩] rfl)
 go_enter Tryz.func14,Tryz.ntmps14
 go_wp2_with fail
 generalize (w.alloc (.cells #[.int .u8 3,.int .i64 0,.string ⟨t.toArray⟩] 23))=W2 at H1 ⊢
 refine (glyph_Check_ok ⟨t.toArray⟩ _ h hp).mono ?_
 rintro e w3 ⟨rfl,hb4⟩
 have H5:=Lib.hid (H1.out.below hb4)
 clear hb4 H1
 have F6:=H5.out.sees
 simp only [sees,kBlk,cellsAt,Nat.reduceAdd] at F6
 obtain ⟨⟨z0,c00,c01,c02,-⟩,-⟩:=F6
 go_wp2_with fail
 go_ret
 exact ⟨rfl,H5.out.bel⟩
theorem fields_neg  (w:World) :
  Calls Tryz.prog 135 #[.agg #[.int .u8 4,.int .u8 0,.int .i64 0,.string ⟨#[]⟩,.int .i64 0,.int .i64 0,.int .i64 0,.int .i64 0,.int .i64 0,.int .u8 0,.int .i64 0]] w fun e w'=>e=.returned (.int .i64 0)∧Below w.heap.size w w':=by
 have H1:=Lib.hid ((Ok.start w).alloc w.heap.size 96 [.int .u8 4,.int .u8 0,.int .i64 0,.string ⟨#[]⟩,.int .i64 0,.int .i64 0,.int .i64 0,.int .i64 0,.int .i64 0,.int .u8 0,.int .i64 0] rfl)
 go_enter Tryz.func135,Tryz.ntmps135
 go_wp2_with fail
 generalize (w.alloc (.cells #[.int .u8 4,.int .u8 0,.int .i64 0,.string ⟨#[]⟩,.int .i64 0,.int .i64 0,.int .i64 0,.int .i64 0,.int .i64 0,.int .u8 0,.int .i64 0] 96))=W2 at H1 ⊢
 go_ret
 exact ⟨rfl,(H1.out.alloc_obj _).bel⟩
theorem fields_pct  (w:World) :
  Calls Tryz.prog 135 #[.agg #[.int .u8 5,.int .u8 0,.int .i64 0,.string ⟨#[]⟩,.int .i64 0,.int .i64 0,.int .i64 0,.int .i64 0,.int .i64 0,.int .u8 0,.int .i64 0]] w fun e w'=>e=.returned (.int .i64 0)∧Below w.heap.size w w':=by
 have H1:=Lib.hid ((Ok.start w).alloc w.heap.size 96 [.int .u8 5,.int .u8 0,.int .i64 0,.string ⟨#[]⟩,.int .i64 0,.int .i64 0,.int .i64 0,.int .i64 0,.int .i64 0,.int .u8 0,.int .i64 0] rfl)
 go_enter Tryz.func135,Tryz.ntmps135
 go_wp2_with fail
 generalize (w.alloc (.cells #[.int .u8 5,.int .u8 0,.int .i64 0,.string ⟨#[]⟩,.int .i64 0,.int .i64 0,.int .i64 0,.int .i64 0,.int .i64 0,.int .u8 0,.int .i64 0] 96))=W2 at H1 ⊢
 go_ret
 exact ⟨rfl,(H1.out.alloc_obj _).bel⟩
theorem fields_bin (op:Int) (h1:1≤op) (h2:op≤12) (w:World) :
  Calls Tryz.prog 135 #[.agg #[.int .u8 6,.int .u8 0,.int .i64 0,.string ⟨#[]⟩,.int .i64 0,.int .i64 0,.int .i64 0,.int .i64 0,.int .i64 op,.int .u8 0,.int .i64 0]] w fun e w'=>e=.returned (.int .i64 0)∧Below w.heap.size w w':=by
 have H1:=Lib.hid ((Ok.start w).alloc w.heap.size 96 [.int .u8 6,.int .u8 0,.int .i64 0,.string ⟨#[]⟩,.int .i64 0,.int .i64 0,.int .i64 0,.int .i64 0,.int .i64 op,.int .u8 0,.int .i64 0] rfl)
 go_enter Tryz.func135,Tryz.ntmps135
 go_wp2_with fail
 generalize (w.alloc (.cells #[.int .u8 6,.int .u8 0,.int .i64 0,.string ⟨#[]⟩,.int .i64 0,.int .i64 0,.int .i64 0,.int .i64 0,.int .i64 op,.int .u8 0,.int .i64 0] 96))=W2 at H1 ⊢
 go_ret
 exact ⟨rfl,(H1.out.alloc_obj _).bel⟩
theorem fields_num (n:Int) (h:0≤n) (w:World) :
  Calls Tryz.prog 135 #[.agg #[.int .u8 1,.int .u8 1,.int .i64 n,.string ⟨#[]⟩,.int .i64 0,.int .i64 0,.int .i64 0,.int .i64 0,.int .i64 0,.int .u8 0,.int .i64 0]] w fun e w'=>e=.returned (.int .i64 0)∧Below w.heap.size w w':=by
 have H1:=Lib.hid (((Ok.start w).alloc w.heap.size 96 [.int .u8 1,.int .u8 1,.int .i64 n,.string ⟨#[]⟩,.int .i64 0,.int .i64 0,.int .i64 0,.int .i64 0,.int .i64 0,.int .u8 0,.int .i64 0] rfl).alloc (w.heap.size+1) 96 [.int .u8 1,.int .u8 1,.int .i64 n,.string ⟨#[]⟩,.int .i64 0,.int .i64 0,.int .i64 0,.int .i64 0,.int .i64 0,.int .u8 0,.int .i64 0] (by simp))
 go_enter Tryz.func135,Tryz.ntmps135
 go_wp2_with fail
 generalize ((w.alloc (.cells #[.int .u8 1,.int .u8 1,.int .i64 n,.string ⟨#[]⟩,.int .i64 0,.int .i64 0,.int .i64 0,.int .i64 0,.int .i64 0,.int .u8 0,.int .i64 0] 96)).alloc (.cells #[.int .u8 1,.int .u8 1,.int .i64 n,.string ⟨#[]⟩,.int .i64 0,.int .i64 0,.int .i64 0,.int .i64 0,.int .i64 0,.int .u8 0,.int .i64 0] 96))=W2 at H1 ⊢
 refine (check_num n h _).mono ?_
 rintro e w3 ⟨rfl,hb4⟩
 have H5:=Lib.hid (H1.out.below hb4)
 clear hb4 H1
 have F6:=H5.out.sees
 simp only [sees,kBlk,cellsAt,Nat.reduceAdd] at F6
 obtain ⟨⟨z0,c00,c01,c02,c03,c04,c05,c06,c07,c08,c09,c0a,-⟩,⟨z1,c10,c11,c12,c13,c14,c15,c16,c17,c18,c19,c1a,-⟩,-⟩:=F6
 go_wp2_with fail
 go_ret
 exact ⟨rfl,H5.out.bel⟩
theorem fields_no  (w:World) :
  Calls Tryz.prog 135 #[.agg #[.int .u8 1,.int .u8 2,.int .i64 0,.string ⟨#[]⟩,.int .i64 0,.int .i64 0,.int .i64 0,.int .i64 0,.int .i64 0,.int .u8 0,.int .i64 0]] w fun e w'=>e=.returned (.int .i64 0)∧Below w.heap.size w w':=by
 have H1:=Lib.hid (((Ok.start w).alloc w.heap.size 96 [.int .u8 1,.int .u8 2,.int .i64 0,.string ⟨#[]⟩,.int .i64 0,.int .i64 0,.int .i64 0,.int .i64 0,.int .i64 0,.int .u8 0,.int .i64 0] rfl).alloc (w.heap.size+1) 96 [.int .u8 1,.int .u8 2,.int .i64 0,.string ⟨#[]⟩,.int .i64 0,.int .i64 0,.int .i64 0,.int .i64 0,.int .i64 0,.int .u8 0,.int .i64 0] (by simp))
 go_enter Tryz.func135,Tryz.ntmps135
 go_wp2_with fail
 generalize ((w.alloc (.cells #[.int .u8 1,.int .u8 2,.int .i64 0,.string ⟨#[]⟩,.int .i64 0,.int .i64 0,.int .i64 0,.int .i64 0,.int .i64 0,.int .u8 0,.int .i64 0] 96)).alloc (.cells #[.int .u8 1,.int .u8 2,.int .i64 0,.string ⟨#[]⟩,.int .i64 0,.int .i64 0,.int .i64 0,.int .i64 0,.int .i64 0,.int .u8 0,.int .i64 0] 96))=W2 at H1 ⊢
 refine (check_no _).mono ?_
 rintro e w3 ⟨rfl,hb4⟩
 have H5:=Lib.hid (H1.out.below hb4)
 clear hb4 H1
 have F6:=H5.out.sees
 simp only [sees,kBlk,cellsAt,Nat.reduceAdd] at F6
 obtain ⟨⟨z0,c00,c01,c02,c03,c04,c05,c06,c07,c08,c09,c0a,-⟩,⟨z1,c10,c11,c12,c13,c14,c15,c16,c17,c18,c19,c1a,-⟩,-⟩:=F6
 go_wp2_with fail
 go_ret
 exact ⟨rfl,H5.out.bel⟩
theorem fields_yes  (w:World) :
  Calls Tryz.prog 135 #[.agg #[.int .u8 1,.int .u8 2,.int .i64 1,.string ⟨#[]⟩,.int .i64 0,.int .i64 0,.int .i64 0,.int .i64 0,.int .i64 0,.int .u8 0,.int .i64 0]] w fun e w'=>e=.returned (.int .i64 0)∧Below w.heap.size w w':=by
 have H1:=Lib.hid (((Ok.start w).alloc w.heap.size 96 [.int .u8 1,.int .u8 2,.int .i64 1,.string ⟨#[]⟩,.int .i64 0,.int .i64 0,.int .i64 0,.int .i64 0,.int .i64 0,.int .u8 0,.int .i64 0] rfl).alloc (w.heap.size+1) 96 [.int .u8 1,.int .u8 2,.int .i64 1,.string ⟨#[]⟩,.int .i64 0,.int .i64 0,.int .i64 0,.int .i64 0,.int .i64 0,.int .u8 0,.int .i64 0] (by simp))
 go_enter Tryz.func135,Tryz.ntmps135
 go_wp2_with fail
 generalize ((w.alloc (.cells #[.int .u8 1,.int .u8 2,.int .i64 1,.string ⟨#[]⟩,.int .i64 0,.int .i64 0,.int .i64 0,.int .i64 0,.int .i64 0,.int .u8 0,.int .i64 0] 96)).alloc (.cells #[.int .u8 1,.int .u8 2,.int .i64 1,.string ⟨#[]⟩,.int .i64 0,.int .i64 0,.int .i64 0,.int .i64 0,.int .i64 0,.int .u8 0,.int .i64 0] 96))=W2 at H1 ⊢
 refine (check_yes _).mono ?_
 rintro e w3 ⟨rfl,hb4⟩
 have H5:=Lib.hid (H1.out.below hb4)
 clear hb4 H1
 have F6:=H5.out.sees
 simp only [sees,kBlk,cellsAt,Nat.reduceAdd] at F6
 obtain ⟨⟨z0,c00,c01,c02,c03,c04,c05,c06,c07,c08,c09,c0a,-⟩,⟨z1,c10,c11,c12,c13,c14,c15,c16,c17,c18,c19,c1a,-⟩,-⟩:=F6
 go_wp2_with fail
 go_ret
 exact ⟨rfl,H5.out.bel⟩
theorem fields_txt (t:List UInt8) (h:t.length≤256) (hp:t.all plainB=true) (w:World) :
  Calls Tryz.prog 135 #[.agg #[.int .u8 1,.int .u8 3,.int .i64 0,.string ⟨t.toArray⟩,.int .i64 0,.int .i64 0,.int .i64 0,.int .i64 0,.int .i64 0,.int .u8 0,.int .i64 0]] w fun e w'=>e=.returned (.int .i64 0)∧Below w.heap.size w w':=by
 have H1:=Lib.hid (((Ok.start w).alloc w.heap.size 96 [.int .u8 1,.int .u8 3,.int .i64 0,.string ⟨t.toArray⟩,.int .i64 0,.int .i64 0,.int .i64 0,.int .i64 0,.int .i64 0,.int .u8 0,.int .i64 0] rfl).alloc (w.heap.size+1) 96 [.int .u8 1,.int .u8 3,.int .i64 0,.string ⟨t.toArray⟩,.int .i64 0,.int .i64 0,.int .i64 0,.int .i64 0,.int .i64 0,.int .u8 0,.int .i64 0] (by simp))
 go_enter Tryz.func135,Tryz.ntmps135
 go_wp2_with fail
 generalize ((w.alloc (.cells #[.int .u8 1,.int .u8 3,.int .i64 0,.string ⟨t.toArray⟩,.int .i64 0,.int .i64 0,.int .i64 0,.int .i64 0,.int .i64 0,.int .u8 0,.int .i64 0] 96)).alloc (.cells #[.int .u8 1,.int .u8 3,.int .i64 0,.string ⟨t.toArray⟩,.int .i64 0,.int .i64 0,.int .i64 0,.int .i64 0,.int .i64 0,.int .u8 0,.int .i64 0] 96))=W2 at H1 ⊢
 refine (check_txt t h hp _).mono ?_
 rintro e w3 ⟨rfl,hb4⟩
 have H5:=Lib.hid (H1.out.below hb4)
 clear hb4 H1
 have F6:=H5.out.sees
 simp only [sees,kBlk,cellsAt,Nat.reduceAdd] at F6
 obtain ⟨⟨z0,c00,c01,c02,c03,c04,c05,c06,c07,c08,c09,c0a,-⟩,⟨z1,c10,c11,c12,c13,c14,c15,c16,c17,c18,c19,c1a,-⟩,-⟩:=F6
 go_wp2_with fail
 go_ret
 exact ⟨rfl,H5.out.bel⟩
theorem fields_err (c:Int) (h1:1≤c) (h2:c≤5) (w:World) :
  Calls Tryz.prog 135 #[.agg #[.int .u8 1,.int .u8 4,.int .i64 c,.string ⟨#[]⟩,.int .i64 0,.int .i64 0,.int .i64 0,.int .i64 0,.int .i64 0,.int .u8 0,.int .i64 0]] w fun e w'=>e=.returned (.int .i64 0)∧Below w.heap.size w w':=by
 have H1:=Lib.hid (((Ok.start w).alloc w.heap.size 96 [.int .u8 1,.int .u8 4,.int .i64 c,.string ⟨#[]⟩,.int .i64 0,.int .i64 0,.int .i64 0,.int .i64 0,.int .i64 0,.int .u8 0,.int .i64 0] rfl).alloc (w.heap.size+1) 96 [.int .u8 1,.int .u8 4,.int .i64 c,.string ⟨#[]⟩,.int .i64 0,.int .i64 0,.int .i64 0,.int .i64 0,.int .i64 0,.int .u8 0,.int .i64 0] (by simp))
 go_enter Tryz.func135,Tryz.ntmps135
 go_wp2_with fail
 generalize ((w.alloc (.cells #[.int .u8 1,.int .u8 4,.int .i64 c,.string ⟨#[]⟩,.int .i64 0,.int .i64 0,.int .i64 0,.int .i64 0,.int .i64 0,.int .u8 0,.int .i64 0] 96)).alloc (.cells #[.int .u8 1,.int .u8 4,.int .i64 c,.string ⟨#[]⟩,.int .i64 0,.int .i64 0,.int .i64 0,.int .i64 0,.int .i64 0,.int .u8 0,.int .i64 0] 96))=W2 at H1 ⊢
 refine (check_err c h1 (by omega) _).mono ?_
 rintro e w3 ⟨rfl,hb4⟩
 have H5:=Lib.hid (H1.out.below hb4)
 clear hb4 H1
 have F6:=H5.out.sees
 simp only [sees,kBlk,cellsAt,Nat.reduceAdd] at F6
 obtain ⟨⟨z0,c00,c01,c02,c03,c04,c05,c06,c07,c08,c09,c0a,-⟩,⟨z1,c10,c11,c12,c13,c14,c15,c16,c17,c18,c19,c1a,-⟩,-⟩:=F6
 go_wp2_with fail
 go_ret
 exact ⟨rfl,H5.out.bel⟩
theorem fields_ref (c r:Int) (hc:checkB ⟨c,r,c,r⟩=true) (w:World) :
  Calls Tryz.prog 135 #[.agg #[.int .u8 2,.int .u8 0,.int .i64 0,.string ⟨#[]⟩,.int .i64 c,.int .i64 r,.int .i64 c,.int .i64 r,.int .i64 0,.int .u8 0,.int .i64 0]] w fun e w'=>e=.returned (.int .i64 0)∧Below w.heap.size w w':=by
 have HCE:=keep (checkE_yes hc)
 clear hc
 have H1:=Lib.hid (((Ok.start w).alloc w.heap.size 96 [.int .u8 2,.int .u8 0,.int .i64 0,.string ⟨#[]⟩,.int .i64 c,.int .i64 r,.int .i64 c,.int .i64 r,.int .i64 0,.int .u8 0,.int .i64 0] rfl).alloc (w.heap.size+1) 96 [.int .u8 2,.int .u8 0,.int .i64 0,.string ⟨#[]⟩,.int .i64 c,.int .i64 r,.int .i64 c,.int .i64 r,.int .i64 0,.int .u8 0,.int .i64 0] (by simp))
 go_enter Tryz.func135,Tryz.ntmps135
 go_wp2_with fail
 generalize ((w.alloc (.cells #[.int .u8 2,.int .u8 0,.int .i64 0,.string ⟨#[]⟩,.int .i64 c,.int .i64 r,.int .i64 c,.int .i64 r,.int .i64 0,.int .u8 0,.int .i64 0] 96)).alloc (.cells #[.int .u8 2,.int .u8 0,.int .i64 0,.string ⟨#[]⟩,.int .i64 c,.int .i64 r,.int .i64 c,.int .i64 r,.int .i64 0,.int .u8 0,.int .i64 0] 96))=W2 at H1 ⊢
 refine (rect_Check c r c r _).mono ?_
 rintro e w3 ⟨rfl,hb4⟩
 rw [HCE.out]
 have H5:=Lib.hid (H1.out.below hb4)
 clear hb4 H1
 have F6:=H5.out.sees
 simp only [sees,kBlk,cellsAt,Nat.reduceAdd] at F6
 obtain ⟨⟨z0,c00,c01,c02,c03,c04,c05,c06,c07,c08,c09,c0a,-⟩,⟨z1,c10,c11,c12,c13,c14,c15,c16,c17,c18,c19,c1a,-⟩,-⟩:=F6
 go_wp2_with fail
 go_ret
 exact ⟨rfl,H5.out.bel⟩
theorem fields_range1 (a b c d:Int) (hc:checkB ⟨a,b,c,d⟩=true) (hne:a≠c) (w:World) :
  Calls Tryz.prog 135 #[.agg #[.int .u8 3,.int .u8 0,.int .i64 0,.string ⟨#[]⟩,.int .i64 a,.int .i64 b,.int .i64 c,.int .i64 d,.int .i64 0,.int .u8 0,.int .i64 0]] w fun e w'=>e=.returned (.int .i64 0)∧Below w.heap.size w w':=by
 have HCE:=keep (checkE_yes hc)
 clear hc
 have H1:=Lib.hid (((Ok.start w).alloc w.heap.size 96 [.int .u8 3,.int .u8 0,.int .i64 0,.string ⟨#[]⟩,.int .i64 a,.int .i64 b,.int .i64 c,.int .i64 d,.int .i64 0,.int .u8 0,.int .i64 0] rfl).alloc (w.heap.size+1) 96 [.int .u8 3,.int .u8 0,.int .i64 0,.string ⟨#[]⟩,.int .i64 a,.int .i64 b,.int .i64 c,.int .i64 d,.int .i64 0,.int .u8 0,.int .i64 0] (by simp))
 have hb:(a == c)=false:=by simpa using hne
 clear hne
 go_enter Tryz.func135,Tryz.ntmps135
 go_wp2_with fail
 generalize ((w.alloc (.cells #[.int .u8 3,.int .u8 0,.int .i64 0,.string ⟨#[]⟩,.int .i64 a,.int .i64 b,.int .i64 c,.int .i64 d,.int .i64 0,.int .u8 0,.int .i64 0] 96)).alloc (.cells #[.int .u8 3,.int .u8 0,.int .i64 0,.string ⟨#[]⟩,.int .i64 a,.int .i64 b,.int .i64 c,.int .i64 d,.int .i64 0,.int .u8 0,.int .i64 0] 96))=W2 at H1 ⊢
 refine (rect_Check a b c d _).mono ?_
 rintro e w3 ⟨rfl,hb4⟩
 rw [HCE.out]
 have H5:=Lib.hid (H1.out.below hb4)
 clear hb4 H1
 have F6:=H5.out.sees
 simp only [sees,kBlk,cellsAt,Nat.reduceAdd] at F6
 obtain ⟨⟨z0,c00,c01,c02,c03,c04,c05,c06,c07,c08,c09,c0a,-⟩,⟨z1,c10,c11,c12,c13,c14,c15,c16,c17,c18,c19,c1a,-⟩,-⟩:=F6
 go_wp2_with fail
 go_ret
 exact ⟨rfl,H5.out.bel⟩
theorem fields_range2 (a b d:Int) (hc:checkB ⟨a,b,a,d⟩=true) (hne:b≠d) (w:World) :
  Calls Tryz.prog 135 #[.agg #[.int .u8 3,.int .u8 0,.int .i64 0,.string ⟨#[]⟩,.int .i64 a,.int .i64 b,.int .i64 a,.int .i64 d,.int .i64 0,.int .u8 0,.int .i64 0]] w fun e w'=>e=.returned (.int .i64 0)∧Below w.heap.size w w':=by
 have HCE:=keep (checkE_yes hc)
 clear hc
 have H1:=Lib.hid (((Ok.start w).alloc w.heap.size 96 [.int .u8 3,.int .u8 0,.int .i64 0,.string ⟨#[]⟩,.int .i64 a,.int .i64 b,.int .i64 a,.int .i64 d,.int .i64 0,.int .u8 0,.int .i64 0] rfl).alloc (w.heap.size+1) 96 [.int .u8 3,.int .u8 0,.int .i64 0,.string ⟨#[]⟩,.int .i64 a,.int .i64 b,.int .i64 a,.int .i64 d,.int .i64 0,.int .u8 0,.int .i64 0] (by simp))
 have hb:(b == d)=false:=by simpa using hne
 clear hne
 go_enter Tryz.func135,Tryz.ntmps135
 go_wp2_with fail
 generalize ((w.alloc (.cells #[.int .u8 3,.int .u8 0,.int .i64 0,.string ⟨#[]⟩,.int .i64 a,.int .i64 b,.int .i64 a,.int .i64 d,.int .i64 0,.int .u8 0,.int .i64 0] 96)).alloc (.cells #[.int .u8 3,.int .u8 0,.int .i64 0,.string ⟨#[]⟩,.int .i64 a,.int .i64 b,.int .i64 a,.int .i64 d,.int .i64 0,.int .u8 0,.int .i64 0] 96))=W2 at H1 ⊢
 refine (rect_Check a b a d _).mono ?_
 rintro e w3 ⟨rfl,hb4⟩
 rw [HCE.out]
 have H5:=Lib.hid (H1.out.below hb4)
 clear hb4 H1
 have F6:=H5.out.sees
 simp only [sees,kBlk,cellsAt,Nat.reduceAdd] at F6
 obtain ⟨⟨z0,c00,c01,c02,c03,c04,c05,c06,c07,c08,c09,c0a,-⟩,⟨z1,c10,c11,c12,c13,c14,c15,c16,c17,c18,c19,c1a,-⟩,-⟩:=F6
 go_wp2_with fail
 go_ret
 exact ⟨rfl,H5.out.bel⟩
theorem fields_call (fn k:Nat) (h1:1≤fn) (h2:fn≤50) (hk1:(arS fn).1≤k) (hk2:k≤(arS fn).2) (w:World) :
  Calls Tryz.prog 135 #[.agg #[.int .u8 7,.int .u8 0,.int .i64 0,.string ⟨#[]⟩,.int .i64 0,.int .i64 0,.int .i64 0,.int .i64 0,.int .i64 0,.int .u8 (fn:Nat),.int .i64 (k:Nat)]] w fun e w'=>e=.returned (.int .i64 0)∧Below w.heap.size w w':=by
 have g1:¬ ((k:Nat):Int)<((arS fn).1:Nat):=by omega
 have g2:¬ ((k:Nat):Int)>((arS fn).2:Nat):=by omega
 have H1:=Lib.hid (((Ok.start w).alloc w.heap.size 96 [.int .u8 7,.int .u8 0,.int .i64 0,.string ⟨#[]⟩,.int .i64 0,.int .i64 0,.int .i64 0,.int .i64 0,.int .i64 0,.int .u8 (fn:Nat),.int .i64 (k:Nat)] rfl).var (w.heap.size+1) 96 [.int .u8 7,.int .u8 0,.int .i64 0,.string ⟨#[]⟩,.int .i64 0,.int .i64 0,.int .i64 0,.int .i64 0,.int .i64 0,.int .u8 0,.int .i64 0] (by simp))
 go_enter Tryz.func135,Tryz.ntmps135
 go_wp2_with fail
 generalize ((w.alloc (.cells #[.int .u8 7,.int .u8 0,.int .i64 0,.string ⟨#[]⟩,.int .i64 0,.int .i64 0,.int .i64 0,.int .i64 0,.int .i64 0,.int .u8 (fn:Nat),.int .i64 (k:Nat)] 96)).alloc (.cells #[.int .u8 7,.int .u8 0,.int .i64 0,.string ⟨#[]⟩,.int .i64 0,.int .i64 0,.int .i64 0,.int .i64 0,.int .i64 0,.int .u8 0,.int .i64 0] 96))=W2 at H1 ⊢
 have F3:=H1.out.sees
 simp only [sees,kBlk,kVar,cellsAt,Nat.reduceAdd] at F3
 obtain ⟨⟨⟨z0,fz0⟩,c00,c01,c02,c03,c04,c05,c06,c07,c08,c09,c0a,-⟩,⟨z1,c10,c11,c12,c13,c14,c15,c16,c17,c18,c19,c1a,-⟩,-⟩:=F3
 go_region
 clear z0 fz0 c00 c01 c02 c03 c04 c05 c06 c07 c08 c09 c0a z1 c10 c11 c12 c13 c14 c15 c16 c17 c18 c19 c1a
 have hfar:∀ x∈[kBlk (w.heap.size) 96 [.int .u8 7,.int .u8 0,.int .i64 0,.string ⟨#[]⟩,.int .i64 0,.int .i64 0,.int .i64 0,.int .i64 0,.int .i64 0,.int .u8 (fn:Nat),.int .i64 (k:Nat)]],x.far (some (w.heap.size+1)):=by
  intro x hx
  simp at hx
  subst hx
  show some w.heap.size≠some (w.heap.size+1)
  simp
 have H5:=Lib.hid (((H1.out.set_ (i:=9) (u:=.int .u8 (fn:Nat)) (by omega) hfar).set_ (i:=10) (u:=.int .i64 (k:Nat)) (by omega) hfar).drew)
 clear hfar H1
 have H6:Hid (Ok w [kVar (w.heap.size+1) 96 [.int .u8 7,.int .u8 0,.int .i64 0,.string ⟨#[]⟩,.int .i64 0,.int .i64 0,.int .i64 0,.int .i64 0,.int .i64 0,.int .u8 (fn:Nat),.int .i64 (k:Nat)],kBlk (w.heap.size) 96 [.int .u8 7,.int .u8 0,.int .i64 0,.string ⟨#[]⟩,.int .i64 0,.int .i64 0,.int .i64 0,.int .i64 0,.int .i64 0,.int .u8 (fn:Nat),.int .i64 (k:Nat)]] (((W2.setCell ⟨w.heap.size+1,9,none⟩ (.int .u8 (fn:Nat))).setCell ⟨w.heap.size+1,10,none⟩ (.int .i64 (k:Nat))).drew)):=H5
 clear H5
 generalize ((W2.setCell ⟨w.heap.size+1,9,none⟩ (.int .u8 (fn:Nat))).setCell ⟨w.heap.size+1,10,none⟩ (.int .i64 (k:Nat))).drew=W9 at H6 ⊢
 have F4:=H6.out.sees
 simp only [sees,kBlk,kVar,cellsAt,Nat.reduceAdd] at F4
 obtain ⟨⟨⟨z0,fz0⟩,c00,c01,c02,c03,c04,c05,c06,c07,c08,c09,c0a,-⟩,⟨z1,c10,c11,c12,c13,c14,c15,c16,c17,c18,c19,c1a,-⟩,-⟩:=F4
 go_wp2_with fail
 refine (tree_Arity fn _ h1 h2).mono ?_
 rintro e w5 ⟨rfl,hw⟩
 obtain rfl:W9=w5:=hw.symm
 go_wp2_with fail
 go_ret
 exact ⟨rfl,H6.out.bel⟩
def goodNd (n:Nd):Prop :=
 (∃ vk vn vt,n=⟨1,vk,vn,vt,R4.zero,0,0,0⟩∧goodV vk vn vt)∨(∃ r,n=ndRef r∧checkB r=true∧r.c1=r.c2∧r.r1=r.r2)∨(∃ r,n=ndRange r∧checkB r=true∧¬ (r.c1=r.c2∧r.r1=r.r2)) ∨
 n=ndNeg∨n=ndPct∨(∃ op,n=ndBin op∧1≤op∧op≤12)∨∃ fn k,n=ndCall fn k∧1≤fn∧fn≤50∧(arS fn).1≤k∧k≤(arS fn).2
theorem tree_fields (n:Nd) (h:goodNd n) (w:World) :
  Calls Tryz.prog 135 #[ndA n] w fun e w'=>e=.returned (.int .i64 0)∧Below w.heap.size w w':=by
 rcases h with ⟨vk,vn,vt,rfl,hv⟩ | ⟨⟨a,b,c,d⟩,rfl,hc,h1,h2⟩ | ⟨⟨a,b,c,d⟩,rfl,hc,hne⟩ | rfl | rfl | ⟨op,rfl,h1,h2⟩ | ⟨fn,k,rfl,h1,h2,h3,h4⟩
 ·rcases hv with ⟨rfl,h1,rfl⟩ | ⟨rfl,h1 | h1,rfl⟩ | ⟨rfl,rfl,h1,h2⟩ | ⟨rfl,⟨h1,h2⟩,rfl⟩
  ·exact fields_num vn h1 w
  ·subst h1; exact fields_no w
  ·subst h1; exact fields_yes w
  ·exact fields_txt vt h1 h2 w
  ·exact fields_err vn h1 h2 w
 ·simp only [] at h1 h2
  subst h1 h2
  exact fields_ref a b hc w
 ·simp only [] at hne
  by_cases h1:a=c
  ·subst h1
   exact fields_range2 a b d hc (fun h=>hne ⟨rfl,h⟩) w
  ·exact fields_range1 a b c d hc h1 w
 ·exact fields_neg w
 ·exact fields_pct w
 ·exact fields_bin op h1 h2 w
 ·exact fields_call fn k h1 h2 h3 h4 w
set_option maxRecDepth 100000
set_option maxHeartbeats 2000000
def addR (ns:List Nd):Rs→Rs
 | .bad a c=>.bad a c
 | .ok ts ns' n=>.ok ts (ns++ns') n
theorem add_add_ (a b:List Nd) (r:Rs):addR a (addR b r)=addR (a++b) r:=by cases r <;> simp [addR]
theorem seq_cases {x:Option Rs} {g:List Tk→Nat→Option Rs} {r:Rs} (h:seqR x g=some r) :
  (∃ a c,x=some (.bad a c)∧r=.bad a c)∨∃ ts1 ns1 n1 q,x=some (.ok ts1 ns1 n1)∧g ts1 n1=some q∧r=addR ns1 q:=by
 unfold seqR at h
 split at h
 ·simp at h
 ·rename_i a c
  simp at h
  exact .inl ⟨a,c,rfl,h.symm⟩
 ·rename_i ts1 ns1 n1
  split at h
  ·simp at h
  ·rename_i a c hg
   simp at h
   exact .inr ⟨ts1,ns1,n1,_,rfl,hg,h.symm⟩
  ·rename_i ts2 ns2 n2 hg
   simp at h
   exact .inr ⟨ts1,ns1,n1,_,rfl,hg,h.symm⟩
theorem ops_cases {e g k:Nat} {ts:List Tk} {q:Rs} (h:parF e (g+1) (.ops k) ts=some q) :
  (((hdS e ts).kind≠8∨bindS (hdS e ts).num≠k)∧q=.ok ts [] 0)∨∃ t ts',ts=t::ts'∧t.kind=8∧bindS t.num=k ∧
   ((∃ a c,parF e g (.lv (k+1)) ts'=some (.bad a c)∧q=.bad a c)∨∃ ts1 ns1 n1 q2,parF e g (.lv (k+1)) ts'=some (.ok ts1 ns1 n1)∧parF e g (.ops k) ts1=some q2∧q=addR (ns1++[ndBin t.num]) q2):=by
 cases ts with
 | nil =>
  rw [parF] at h
  simp at h
  exact .inl ⟨.inl (by simp [hdS]),h.symm⟩
 | cons t ts' =>
  rw [parF] at h
  split at h
  ·rename_i ht
   refine .inr ⟨t,ts',rfl,ht.1,ht.2,?_⟩
   rcases seq_cases h with ⟨a,c,h1,h2⟩ | ⟨ts1,ns1,n1,q1,h1,h2,rfl⟩
   ·exact .inl ⟨a,c,h1,h2⟩
   ·rcases seq_cases h2 with ⟨a,c,h3,h4⟩ | ⟨ts2,ns2,n2,q2,h3,h4,rfl⟩
    ·simp at h3
    ·simp only [Option.some.injEq,Rs.ok.injEq] at h3
     obtain ⟨rfl,rfl,rfl⟩:=h3
     exact .inr ⟨ts1,ns1,n1,q2,h1,h4,by rw [add_add_]⟩
  ·rename_i ht
   simp at h
   refine .inl ⟨?_,h.symm⟩
   show t.kind≠8∨bindS t.num≠k
   by_cases h8:t.kind=8
   ·exact .inr fun hb=>ht ⟨h8,hb⟩
   ·exact .inl h8
theorem op_ge {e f k:Nat} {ts:List Tk} {r:Rs} (h:parF e f (.ops k) ts=some r):∃ g,f=g+1:=by
 cases f with
 | zero=>simp [parF] at h
 | succ g=>exact ⟨g,rfl⟩
theorem par_nodes {e:Nat}:∀ (f:Nat) (m:Md) (ts ts':List Tk) (ns:List Nd) (n:Nat),parF e f m ts=some (.ok ts' ns n)→ns.length+ts'.length≤ts.length
 | 0,_,_,_,_,_,h=>by simp [parF] at h
 | f+1,.lv k,ts,ts',ns,n,h=>by
  rw [parF] at h
  split at h
  ·exact par_nodes f _ _ _ _ _ h
  ·obtain ⟨t1,_,_,_,h1,h2,rfl⟩:=seq_ok h
   have a:=par_nodes f _ _ _ _ _ h1
   have b:=par_nodes f _ _ _ _ _ h2
   simp; omega
 | f+1,.ops k,[],ts',ns,n,h=>by
  simp only [parF,Option.some.injEq,Rs.ok.injEq] at h
  obtain ⟨rfl,rfl,_⟩:=h
  simp
 | f+1,.ops k,t::ts,ts',ns,n,h=>by
  rw [parF] at h
  split at h
  ·obtain ⟨t1,_,_,_,h1,h2,rfl⟩:=seq_ok h
   obtain ⟨t2,_,_,_,h3,h4,rfl⟩:=seq_ok h2
   simp only [Option.some.injEq,Rs.ok.injEq] at h3
   obtain ⟨rfl,rfl,_⟩:=h3
   have a:=par_nodes f _ _ _ _ _ h1
   have b:=par_nodes f _ _ _ _ _ h4
   simp; omega
  ·simp only [Option.some.injEq,Rs.ok.injEq] at h
   obtain ⟨rfl,rfl,_⟩:=h
   simp
 | f+1,.sg,ts,ts',ns,n,h=>by
  rw [parF] at h
  split at h
  ·rename_i ho
   have hd:=drop_op ho
   obtain ⟨t1,_,_,_,h1,h2,rfl⟩:=seq_ok h
   simp only [Option.some.injEq,Rs.ok.injEq] at h2
   obtain ⟨rfl,rfl,_⟩:=h2
   have a:=par_nodes f _ _ _ _ _ h1
   simp; omega
  ·obtain ⟨t1,_,_,_,h1,h2,rfl⟩:=seq_ok h
   have a:=par_nodes f _ _ _ _ _ h1
   split at h2
   ·rename_i ho
    have hd:=drop_op ho
    obtain ⟨t3,_,_,_,h3,h4,rfl⟩:=seq_ok h2
    simp only [Option.some.injEq,Rs.ok.injEq] at h4
    obtain ⟨rfl,rfl,_⟩:=h4
    have b:=par_nodes f _ _ _ _ _ h3
    simp; omega
   ·simp only [Option.some.injEq,Rs.ok.injEq] at h2
    obtain ⟨rfl,rfl,_⟩:=h2
    simp; omega
 | f+1,.pc,ts,ts',ns,n,h=>by
  rw [parF] at h
  obtain ⟨t1,_,_,_,h1,h2,rfl⟩:=seq_ok h
  simp only [Option.some.injEq,Rs.ok.injEq] at h2
  obtain ⟨rfl,rfl,_⟩:=h2
  have a:=par_nodes f _ _ _ _ _ h1
  have key:∀ ts:List Tk,(pctS ts).1.length+(pctS ts).2=ts.length:=by
   intro ts
   induction ts with
   | nil=>rfl
   | cons t ts ih =>
    rw [pctS]
    split
    ·simp; omega
    ·simp
  have b:=key t1
  simp; omega
 | f+1,.pr,[],ts',ns,n,h=>by simp [parF] at h
 | f+1,.pr,t::ts,ts',ns,n,h=>by
  rw [parF] at h
  split at h
  ·simp only [Option.some.injEq,Rs.ok.injEq] at h
   obtain ⟨rfl,rfl,_⟩:=h
   simp; omega
  split at h
  ·simp only [Option.some.injEq,Rs.ok.injEq] at h
   obtain ⟨rfl,rfl,_⟩:=h
   simp; omega
  split at h
  ·obtain ⟨t1,_,_,_,h1,h2,rfl⟩:=seq_ok h
   have a:=par_nodes f _ _ _ _ _ h1
   split at h2
   ·simp only [Option.some.injEq,Rs.ok.injEq] at h2
    obtain ⟨rfl,rfl,_⟩:=h2
    simp; omega
   ·simp at h2
  split at h
  ·split at h
   ·simp at h
   rename_i hk9
   split at h
   ·simp at h
   rename_i h9
   have hd:=drop_hd (e:=e) (ts:=ts) (k:=9) (by simpa using h9) (by decide)
   obtain ⟨t1,ns1,h1,hk,rfl,rfl,_⟩:=close_ok h
   have hd2:=drop_hd hk (by decide)
   split at h1
   ·simp only [Option.some.injEq,Rs.ok.injEq] at h1
    obtain ⟨rfl,rfl,_⟩:=h1
    simp at hd hd2 ⊢
    omega
   ·have a:=par_nodes f _ _ _ _ _ h1
    simp at a hd hd2 ⊢
    omega
  ·simp at h
 | f+1,.args fn i,ts,ts',ns,n,h=>by
  rw [parF] at h
  obtain ⟨t1,ns1,_,ns2,h1,h2,rfl⟩:=seq_ok h
  have h3:ns1.length+t1.length≤ts.length:=by
   split at h1
   ·exact par_nodes f _ _ _ _ _ h1
   ·rename_i h6
    split at h1
    ·simp only [Option.some.injEq,Rs.ok.injEq] at h1
     obtain ⟨rfl,rfl,_⟩:=h1
     have hd:=drop_hd (e:=e) (ts:=ts) (k:=6) (by simpa using h6) (by decide)
     simp at hd ⊢
     omega
    ·simp at h1
  split at h2
  ·rename_i hc
   have hd:=drop_hd hc (by decide)
   have a:=par_nodes f _ _ _ _ _ h2
   simp at a hd ⊢
   omega
  ·simp only [Option.some.injEq,Rs.ok.injEq] at h2
   obtain ⟨rfl,rfl,_⟩:=h2
   simp; omega
def POut (w1:World) (ps:List Pers) (pb en:Nat) (r:Rs) (e:Ending) (w':World):Prop:=match r with
 | .bad a c=>Bad (a:Nat) c w1 e w'
 | .ok ts ns _=>Done (.tuple #[]) w1 ps pb en ts ns e w'
def ConM (w1:World) (ps:List Pers) (pb en:Nat) (m:Md) (r:Rs) (w:World):Prop:=match m with
 | .lv k=>1≤k→k≤4→Calls Tryz.prog 87 #[.pointer (some ⟨pb,0,none⟩),.int .i64 (k:Nat)] w (POut w1 ps pb en r)
 | .sg=>Calls Tryz.prog 112 #[.pointer (some ⟨pb,0,none⟩)] w (POut w1 ps pb en r)
 | .pc=>Calls Tryz.prog 134 #[.pointer (some ⟨pb,0,none⟩)] w (POut w1 ps pb en r)
 | .pr=>Calls Tryz.prog 148 #[.pointer (some ⟨pb,0,none⟩)] w (POut w1 ps pb en r)
 | _=>True
def Con (f:Nat):Prop:=∀ (w1:World) (ps:List Pers) (pb en:Nat) (m:Md) (ts:List Tk) (r:Rs) (ns:List Nd) (w:World),
 parF en f m ts=some r→ns.length+ts.length≤1000→St w1 ps pb en ts ns w→ConM w1 ps pb en m (addR ns r) w
theorem p_sign (f:Nat) (IH:∀ g,g≤f→Con g) (w1:World) (ps:List Pers) (pb en:Nat) (ts:List Tk) (r:Rs) (ns:List Nd) (w:World) (hr:parF en (f+1) .sg ts=some r) (hn:ns.length+ts.length≤1000) (h:St w1 ps pb en ts ns w) :
  Calls Tryz.prog 112 #[.pointer (some ⟨pb,0,none⟩)] w (POut w1 ps pb en (addR ns r)):=by
 rw [parF] at hr
 have HIH:=keep IH
 clear IH
 have H:=Lib.hid h
 clear h
 cases ho:isOp ts 2
 ·rw [if_neg (by rw [ho]; decide)] at hr
  have HO:=keep ho
  clear ho
  rcases seq_cases hr with ⟨a,c,h1,rfl⟩ | ⟨ts1,ns1,n1,q,h1,h2,rfl⟩
  ·have HC:=keep (HIH.out f (Nat.le_refl _) w1 ps pb en .pc ts _ ns · h1 hn)
   clear hr h1
   go_enter Tryz.func112,Tryz.ntmps112
   go_wp2_with fail
   refine (p_is w1 _ pb en ts ns _ _ H.out).mono ?_
   rintro e wa1 ⟨rfl,hb2⟩
   rw [HO.out]
   have H3:=Lib.hid (H.out.below hb2)
   clear hb2 H
   have F4:=H3.out.sees
   obtain ⟨zp,-⟩:=F4
   go_wp2_with fail
   refine (HC.out _ H3.out).mono ?_
   rintro e wz ⟨rfl,hb⟩
   have HZ:=Lib.hid hb
   clear hb
   go_wp2_with fail
   exact ⟨rfl,rfl,HZ.out⟩
  ·have hl1:=par_nodes _ _ _ _ _ _ h1
   have HC:=keep (HIH.out f (Nat.le_refl _) w1 ps pb en .pc ts _ ns · h1 hn)
   clear hr h1
   cases ho2:isOp ts1 5
   ·rw [if_neg (by rw [ho2]; decide)] at h2
    have HO2:=keep ho2
    clear ho2
    simp only [Option.some.injEq] at h2
    subst h2
    go_enter Tryz.func112,Tryz.ntmps112
    go_wp2_with fail
    refine (p_is w1 _ pb en ts ns _ _ H.out).mono ?_
    rintro e wa1 ⟨rfl,hb2⟩
    rw [HO.out]
    have H3:=Lib.hid (H.out.below hb2)
    clear hb2 H
    have F4:=H3.out.sees
    obtain ⟨zp,-⟩:=F4
    go_wp2_with fail
    refine (HC.out _ H3.out).mono ?_
    rintro e wa5 ⟨rfl,hd9⟩
    clear zp
    have H6:=Lib.hid hd9
    clear hd9 H3
    have F7:=H6.out.sees
    obtain ⟨zp,-⟩:=F7
    clear HC
    go_wp2_with fail
    refine (p_is w1 _ pb en ts1 _ _ _ H6.out).mono ?_
    rintro e wa8 ⟨rfl,hb9⟩
    rw [HO2.out]
    clear zp
    have H10:=Lib.hid (H6.out.below hb9)
    clear hb9 H6
    have F11:=H10.out.sees
    obtain ⟨zp,-⟩:=F11
    go_wp2_with fail
    first
     | go_end0
     | refine bodyPost_ret (results_none rfl _ _ _) rfl ?_
    exact ⟨rfl,by rw [List.append_nil]; exact H10.out⟩
   ·rw [if_pos (by rw [ho2])] at h2
    have HO2:=keep ho2
    have hd2:=drop_op ho2
    clear ho2
    cases ts1 with
    | nil=>exact absurd HO2.out (by simp [isOp])
    | cons t1 ts1 =>
     simp only [List.drop_succ_cons,List.drop_zero,List.length_cons] at h2 hd2 hl1
     rcases seq_cases h2 with ⟨a,c,h3,rfl⟩ | ⟨ts2,ns2,n2,q2,h3,h4,rfl⟩
     ·have HC2:=keep (HIH.out f (Nat.le_refl _) w1 ps pb en .sg ts1 _ (ns++ns1) · h3 (by simp; omega))
      clear h2 h3
      go_enter Tryz.func112,Tryz.ntmps112
      go_wp2_with fail
      refine (p_is w1 _ pb en ts ns _ _ H.out).mono ?_
      rintro e wa1 ⟨rfl,hb2⟩
      rw [HO.out]
      have H3:=Lib.hid (H.out.below hb2)
      clear hb2 H
      have F4:=H3.out.sees
      obtain ⟨zp,-⟩:=F4
      go_wp2_with fail
      refine (HC.out _ H3.out).mono ?_
      rintro e wa5 ⟨rfl,hd9⟩
      clear zp
      have H6:=Lib.hid hd9
      clear hd9 H3
      have F7:=H6.out.sees
      obtain ⟨zp,-⟩:=F7
      clear HC
      go_wp2_with fail
      refine (p_is w1 _ pb en (t1::ts1) _ _ _ H6.out).mono ?_
      rintro e wa8 ⟨rfl,hb9⟩
      rw [HO2.out]
      clear zp
      have H10:=Lib.hid (H6.out.below hb9)
      clear hb9 H6
      have F11:=H10.out.sees
      obtain ⟨zp,-⟩:=F11
      go_wp2_with fail
      refine (p_skip w1 _ pb en _ ts1 _ _ H10.out).mono ?_
      rintro e wa12 ⟨rfl,hd9⟩
      clear zp
      have H13:=Lib.hid hd9
      clear hd9 H10
      have F14:=H13.out.sees
      obtain ⟨zp,-⟩:=F14
      go_wp2_with fail
      refine (HC2.out _ H13.out).mono ?_
      rintro e wz ⟨rfl,hb⟩
      have HZ:=Lib.hid hb
      clear hb
      go_wp2_with fail
      exact ⟨rfl,rfl,HZ.out⟩
     ·have hl3:=par_nodes _ _ _ _ _ _ h3
      have HC2:=keep (HIH.out f (Nat.le_refl _) w1 ps pb en .sg ts1 _ (ns++ns1) · h3 (by simp; omega))
      clear h2 h3
      simp only [Option.some.injEq] at h4
      subst h4
      go_enter Tryz.func112,Tryz.ntmps112
      go_wp2_with fail
      refine (p_is w1 _ pb en ts ns _ _ H.out).mono ?_
      rintro e wa1 ⟨rfl,hb2⟩
      rw [HO.out]
      have H3:=Lib.hid (H.out.below hb2)
      clear hb2 H
      have F4:=H3.out.sees
      obtain ⟨zp,-⟩:=F4
      go_wp2_with fail
      refine (HC.out _ H3.out).mono ?_
      rintro e wa5 ⟨rfl,hd9⟩
      clear zp
      have H6:=Lib.hid hd9
      clear hd9 H3
      have F7:=H6.out.sees
      obtain ⟨zp,-⟩:=F7
      clear HC
      go_wp2_with fail
      refine (p_is w1 _ pb en (t1::ts1) _ _ _ H6.out).mono ?_
      rintro e wa8 ⟨rfl,hb9⟩
      rw [HO2.out]
      clear zp
      have H10:=Lib.hid (H6.out.below hb9)
      clear hb9 H6
      have F11:=H10.out.sees
      obtain ⟨zp,-⟩:=F11
      go_wp2_with fail
      refine (p_skip w1 _ pb en _ ts1 _ _ H10.out).mono ?_
      rintro e wa12 ⟨rfl,hd9⟩
      clear zp
      have H13:=Lib.hid hd9
      clear hd9 H10
      have F14:=H13.out.sees
      obtain ⟨zp,-⟩:=F14
      go_wp2_with fail
      refine (HC2.out _ H13.out).mono ?_
      rintro e wa15 ⟨rfl,hd9⟩
      clear zp
      have H16:=Lib.hid hd9
      clear hd9 H13
      have F17:=H16.out.sees
      obtain ⟨zp,-⟩:=F17
      clear HC2
      go_wp2_with fail
      refine (p_put w1 _ pb en ts2 _ (ndBin 5) _ (by simp; omega) H16.out).mono ?_
      rintro e wa18 ⟨rfl,hd9⟩
      clear zp
      have H19:=Lib.hid hd9
      clear hd9 H16
      have F20:=H19.out.sees
      obtain ⟨zp,-⟩:=F20
      go_wp2_with fail
      first
       | go_end0
       | refine bodyPost_ret (results_none rfl _ _ _) rfl ?_
      exact ⟨rfl,by have h9:=H19.out; simpa [List.append_assoc] using h9⟩
 ·rw [if_pos (by rw [ho])] at hr
  have HO:=keep ho
  have hd:=drop_op ho
  clear ho
  cases ts with
  | nil=>exact absurd HO.out (by simp [isOp])
  | cons t0 ts0 =>
   simp only [List.drop_succ_cons,List.drop_zero,List.length_cons] at hr hd hn
   rcases seq_cases hr with ⟨a,c,h1,rfl⟩ | ⟨ts1,ns1,n1,q,h1,h2,rfl⟩
   ·have HC:=keep (HIH.out f (Nat.le_refl _) w1 ps pb en .sg ts0 _ ns · h1 (by omega))
    clear hr h1
    go_enter Tryz.func112,Tryz.ntmps112
    go_wp2_with fail
    refine (p_is w1 _ pb en (t0::ts0) ns _ _ H.out).mono ?_
    rintro e wa1 ⟨rfl,hb2⟩
    rw [HO.out]
    have H3:=Lib.hid (H.out.below hb2)
    clear hb2 H
    have F4:=H3.out.sees
    obtain ⟨zp,-⟩:=F4
    go_wp2_with fail
    refine (p_skip w1 _ pb en _ ts0 _ _ H3.out).mono ?_
    rintro e wa5 ⟨rfl,hd9⟩
    clear zp
    have H6:=Lib.hid hd9
    clear hd9 H3
    have F7:=H6.out.sees
    obtain ⟨zp,-⟩:=F7
    go_wp2_with fail
    refine (HC.out _ H6.out).mono ?_
    rintro e wz ⟨rfl,hb⟩
    have HZ:=Lib.hid hb
    clear hb
    go_wp2_with fail
    exact ⟨rfl,rfl,HZ.out⟩
   ·have hl1:=par_nodes _ _ _ _ _ _ h1
    have HC:=keep (HIH.out f (Nat.le_refl _) w1 ps pb en .sg ts0 _ ns · h1 (by omega))
    clear hr h1
    simp only [Option.some.injEq] at h2
    subst h2
    go_enter Tryz.func112,Tryz.ntmps112
    go_wp2_with fail
    refine (p_is w1 _ pb en (t0::ts0) ns _ _ H.out).mono ?_
    rintro e wa1 ⟨rfl,hb2⟩
    rw [HO.out]
    have H3:=Lib.hid (H.out.below hb2)
    clear hb2 H
    have F4:=H3.out.sees
    obtain ⟨zp,-⟩:=F4
    go_wp2_with fail
    refine (p_skip w1 _ pb en _ ts0 _ _ H3.out).mono ?_
    rintro e wa5 ⟨rfl,hd9⟩
    clear zp
    have H6:=Lib.hid hd9
    clear hd9 H3
    have F7:=H6.out.sees
    obtain ⟨zp,-⟩:=F7
    go_wp2_with fail
    refine (HC.out _ H6.out).mono ?_
    rintro e wa8 ⟨rfl,hd9⟩
    clear zp
    have H9:=Lib.hid hd9
    clear hd9 H6
    have F10:=H9.out.sees
    obtain ⟨zp,-⟩:=F10
    clear HC
    go_wp2_with fail
    refine (p_put w1 _ pb en ts1 _ ndNeg _ (by simp; omega) H9.out).mono ?_
    rintro e wa11 ⟨rfl,hd9⟩
    clear zp
    have H12:=Lib.hid hd9
    clear hd9 H9
    have F13:=H12.out.sees
    obtain ⟨zp,-⟩:=F13
    go_wp2_with fail
    first
     | go_end0
     | refine bodyPost_ret (results_none rfl _ _ _) rfl ?_
    exact ⟨rfl,by have h9:=H12.out; simpa [List.append_assoc] using h9⟩
