/- Contracts of glyph.Check, val.Check and tree.fields, at what a formula may hold. -/
import Derived.Test.YtfffihcadhfplaaGreatDoorQLexI
import Derived.Test.YtfffihcadhfplaaGreatDoorQVal
import Derived.Test.YtfffihcadhfplaaGreatDoorQParA
import Derived.Test.YtfffihcadhfplaaGreatDoorQParB
import Derived.Test.YtfffihcadhfplaaGreatDoorQAddP6
import Derived.Test.YtfffihcadhfplaaGreatDoorQIterV
import Derived.Deep.DeepCutAuto
namespace Go.Proofs.YtfffihcadhfplaaGreatDoor
set_option maxRecDepth 100000
set_option maxHeartbeats 4000000
open Go.RowKit
theorem glyph_Check_ok (s:ByteArray) (w:World) (hs:s.size≤256) (hp:s.data.toList.all plainB=true) :
  Calls Tryz.prog 24 #[.string s] w fun e w'=>e=.returned (.int .i64 0)∧Below w.heap.size w w':=by
 have hi:¬ (s.size:Int)>256:=by omega
 have HP:=keep hp
 clear hp
 go_enter Tryz.func24,Tryz.ntmps24
 go_wp2_with fail
 refine (glyph_printable s _ (by omega)).mono ?_
 rintro e w1 ⟨rfl,hb⟩
 rw [HP.out]
 have HB:=Lib.hid hb
 clear hb
 go_wp2_with fail
 go_ret
 exact ⟨rfl,HB.out⟩
def goodV (vk:Nat) (vn:Int) (vt:List UInt8):Prop :=
 (vk=1∧0≤vn∧vt=[])∨(vk=2∧(vn=0∨vn=1)∧vt=[])∨(vk=3∧vn=0∧vt.length≤256∧vt.all plainB=true)∨(vk=4∧(1≤vn∧vn≤5)∧vt=[])
theorem check_num (n:Int) (h:0≤n) (w:World) :
  Calls Tryz.prog 14 #[.agg #[.int .u8 1,.int .i64 n,.string ⟨#[]⟩]] w fun e w'=>e=.returned (.int .i64 0)∧Below w.heap.size w w':=by
 have H1:=Lib.hid ((Ok.start w).alloc w.heap.size 23 [.int .u8 1,.int .i64 n,.string ⟨#[]⟩] rfl)
 have hne:(n != -9223372036854775808)=true:=by simp; omega
 go_enter Tryz.func14,Tryz.ntmps14
 go_wp2_with fail
 generalize (w.alloc (.cells #[.int .u8 1,.int .i64 n,.string ⟨#[]⟩] 23))=W2 at H1 ⊢
 go_ret
 exact ⟨rfl,H1.out.bel⟩
theorem check_no  (w:World) :
  Calls Tryz.prog 14 #[.agg #[.int .u8 2,.int .i64 0,.string ⟨#[]⟩]] w fun e w'=>e=.returned (.int .i64 0)∧Below w.heap.size w w':=by
 have H1:=Lib.hid ((Ok.start w).alloc w.heap.size 23 [.int .u8 2,.int .i64 0,.string ⟨#[]⟩] rfl)
 go_enter Tryz.func14,Tryz.ntmps14
 go_wp2_with fail
 generalize (w.alloc (.cells #[.int .u8 2,.int .i64 0,.string ⟨#[]⟩] 23))=W2 at H1 ⊢
 go_ret
 exact ⟨rfl,H1.out.bel⟩
theorem check_yes  (w:World) :
  Calls Tryz.prog 14 #[.agg #[.int .u8 2,.int .i64 1,.string ⟨#[]⟩]] w fun e w'=>e=.returned (.int .i64 0)∧Below w.heap.size w w':=by
 have H1:=Lib.hid ((Ok.start w).alloc w.heap.size 23 [.int .u8 2,.int .i64 1,.string ⟨#[]⟩] rfl)
 go_enter Tryz.func14,Tryz.ntmps14
 go_wp2_with fail
 generalize (w.alloc (.cells #[.int .u8 2,.int .i64 1,.string ⟨#[]⟩] 23))=W2 at H1 ⊢
 go_ret
 exact ⟨rfl,H1.out.bel⟩
theorem check_txt (t:List UInt8) (h:t.length≤256) (hp:t.all plainB=true) (w:World) :
  Calls Tryz.prog 14 #[.agg #[.int .u8 3,.int .i64 0,.string ⟨t.toArray⟩]] w fun e w'=>e=.returned (.int .i64 0)∧Below w.heap.size w w':=by
 have H1:=Lib.hid ((Ok.start w).alloc w.heap.size 23 [.int .u8 3,.int .i64 0,.string ⟨t.toArray⟩] rfl)
 go_enter Tryz.func14,Tryz.ntmps14
 go_wp2_with fail
 generalize (w.alloc (.cells #[.int .u8 3,.int .i64 0,.string ⟨t.toArray⟩] 23))=W2 at H1 ⊢
 refine (glyph_Check_ok ⟨t.toArray⟩ _ h hp).mono ?_
 rintro e w3 ⟨rfl,hb4⟩
 have H5:=Lib.hid (H1.out.below hb4)
 clear hb4 H1
 have F6:=H5.out.sees
 simp only [sees,kBlk,cellsAt,Nat.reduceAdd] at F6
 obtain ⟨⟨z0,c00,c01,c02,-⟩,-⟩:=F6
 go_wp2_with fail
 go_ret
 exact ⟨rfl,H5.out.bel⟩
theorem fields_neg  (w:World) :
  Calls Tryz.prog 135 #[.agg #[.int .u8 4,.int .u8 0,.int .i64 0,.string ⟨#[]⟩,.int .i64 0,.int .i64 0,.int .i64 0,.int .i64 0,.int .i64 0,.int .u8 0,.int .i64 0]] w fun e w'=>e=.returned (.int .i64 0)∧Below w.heap.size w w':=by
 have H1:=Lib.hid ((Ok.start w).alloc w.heap.size 96 [.int .u8 4,.int .u8 0,.int .i64 0,.string ⟨#[]⟩,.int .i64 0,.int .i64 0,.int .i64 0,.int .i64 0,.int .i64 0,.int .u8 0,.int .i64 0] rfl)
 go_enter Tryz.func135,Tryz.ntmps135
 go_wp2_with fail
 generalize (w.alloc (.cells #[.int .u8 4,.int .u8 0,.int .i64 0,.string ⟨#[]⟩,.int .i64 0,.int .i64 0,.int .i64 0,.int .i64 0,.int .i64 0,.int .u8 0,.int .i64 0] 96))=W2 at H1 ⊢
 go_ret
 exact ⟨rfl,(H1.out.alloc_obj _).bel⟩
theorem fields_pct  (w:World) :
  Calls Tryz.prog 135 #[.agg #[.int .u8 5,.int .u8 0,.int .i64 0,.string ⟨#[]⟩,.int .i64 0,.int .i64 0,.int .i64 0,.int .i64 0,.int .i64 0,.int .u8 0,.int .i64 0]] w fun e w'=>e=.returned (.int .i64 0)∧Below w.heap.size w w':=by
 have H1:=Lib.hid ((Ok.start w).alloc w.heap.size 96 [.int .u8 5,.int .u8 0,.int .i64 0,.string ⟨#[]⟩,.int .i64 0,.int .i64 0,.int .i64 0,.int .i64 0,.int .i64 0,.int .u8 0,.int .i64 0] rfl)
 go_enter Tryz.func135,Tryz.ntmps135
 go_wp2_with fail
 generalize (w.alloc (.cells #[.int .u8 5,.int .u8 0,.int .i64 0,.string ⟨#[]⟩,.int .i64 0,.int .i64 0,.int .i64 0,.int .i64 0,.int .i64 0,.int .u8 0,.int .i64 0] 96))=W2 at H1 ⊢
 go_ret
 exact ⟨rfl,(H1.out.alloc_obj _).bel⟩
theorem fields_bin (op:Int) (h1:1≤op) (h2:op≤12) (w:World) :
  Calls Tryz.prog 135 #[.agg #[.int .u8 6,.int .u8 0,.int .i64 0,.string ⟨#[]⟩,.int .i64 0,.int .i64 0,.int .i64 0,.int .i64 0,.int .i64 op,.int .u8 0,.int .i64 0]] w fun e w'=>e=.returned (.int .i64 0)∧Below w.heap.size w w':=by
 have H1:=Lib.hid ((Ok.start w).alloc w.heap.size 96 [.int .u8 6,.int .u8 0,.int .i64 0,.string ⟨#[]⟩,.int .i64 0,.int .i64 0,.int .i64 0,.int .i64 0,.int .i64 op,.int .u8 0,.int .i64 0] rfl)
 go_enter Tryz.func135,Tryz.ntmps135
 go_wp2_with fail
 generalize (w.alloc (.cells #[.int .u8 6,.int .u8 0,.int .i64 0,.string ⟨#[]⟩,.int .i64 0,.int .i64 0,.int .i64 0,.int .i64 0,.int .i64 op,.int .u8 0,.int .i64 0] 96))=W2 at H1 ⊢
 go_ret
 exact ⟨rfl,(H1.out.alloc_obj _).bel⟩
theorem fields_num (n:Int) (h:0≤n) (w:World) :
  Calls Tryz.prog 135 #[.agg #[.int .u8 1,.int .u8 1,.int .i64 n,.string ⟨#[]⟩,.int .i64 0,.int .i64 0,.int .i64 0,.int .i64 0,.int .i64 0,.int .u8 0,.int .i64 0]] w fun e w'=>e=.returned (.int .i64 0)∧Below w.heap.size w w':=by
 have H1:=Lib.hid (((Ok.start w).alloc w.heap.size 96 [.int .u8 1,.int .u8 1,.int .i64 n,.string ⟨#[]⟩,.int .i64 0,.int .i64 0,.int .i64 0,.int .i64 0,.int .i64 0,.int .u8 0,.int .i64 0] rfl).alloc (w.heap.size+1) 96 [.int .u8 1,.int .u8 1,.int .i64 n,.string ⟨#[]⟩,.int .i64 0,.int .i64 0,.int .i64 0,.int .i64 0,.int .i64 0,.int .u8 0,.int .i64 0] (by simp))
 go_enter Tryz.func135,Tryz.ntmps135
 go_wp2_with fail
 generalize ((w.alloc (.cells #[.int .u8 1,.int .u8 1,.int .i64 n,.string ⟨#[]⟩,.int .i64 0,.int .i64 0,.int .i64 0,.int .i64 0,.int .i64 0,.int .u8 0,.int .i64 0] 96)).alloc (.cells #[.int .u8 1,.int .u8 1,.int .i64 n,.string ⟨#[]⟩,.int .i64 0,.int .i64 0,.int .i64 0,.int .i64 0,.int .i64 0,.int .u8 0,.int .i64 0] 96))=W2 at H1 ⊢
 refine (check_num n h _).mono ?_
 rintro e w3 ⟨rfl,hb4⟩
 have H5:=Lib.hid (H1.out.below hb4)
 clear hb4 H1
 have F6:=H5.out.sees
 simp only [sees,kBlk,cellsAt,Nat.reduceAdd] at F6
 obtain ⟨⟨z0,c00,c01,c02,c03,c04,c05,c06,c07,c08,c09,c0a,-⟩,⟨z1,c10,c11,c12,c13,c14,c15,c16,c17,c18,c19,c1a,-⟩,-⟩:=F6
 go_wp2_with fail
 go_ret
 exact ⟨rfl,H5.out.bel⟩
theorem fields_no  (w:World) :
  Calls Tryz.prog 135 #[.agg #[.int .u8 1,.int .u8 2,.int .i64 0,.string ⟨#[]⟩,.int .i64 0,.int .i64 0,.int .i64 0,.int .i64 0,.int .i64 0,.int .u8 0,.int .i64 0]] w fun e w'=>e=.returned (.int .i64 0)∧Below w.heap.size w w':=by
 have H1:=Lib.hid (((Ok.start w).alloc w.heap.size 96 [.int .u8 1,.int .u8 2,.int .i64 0,.string ⟨#[]⟩,.int .i64 0,.int .i64 0,.int .i64 0,.int .i64 0,.int .i64 0,.int .u8 0,.int .i64 0] rfl).alloc (w.heap.size+1) 96 [.int .u8 1,.int .u8 2,.int .i64 0,.string ⟨#[]⟩,.int .i64 0,.int .i64 0,.int .i64 0,.int .i64 0,.int .i64 0,.int .u8 0,.int .i64 0] (by simp))
 go_enter Tryz.func135,Tryz.ntmps135
 go_wp2_with fail
 generalize ((w.alloc (.cells #[.int .u8 1,.int .u8 2,.int .i64 0,.string ⟨#[]⟩,.int .i64 0,.int .i64 0,.int .i64 0,.int .i64 0,.int .i64 0,.int .u8 0,.int .i64 0] 96)).alloc (.cells #[.int .u8 1,.int .u8 2,.int .i64 0,.string ⟨#[]⟩,.int .i64 0,.int .i64 0,.int .i64 0,.int .i64 0,.int .i64 0,.int .u8 0,.int .i64 0] 96))=W2 at H1 ⊢
 refine (check_no _).mono ?_
 rintro e w3 ⟨rfl,hb4⟩
 have H5:=Lib.hid (H1.out.below hb4)
 clear hb4 H1
 have F6:=H5.out.sees
 simp only [sees,kBlk,cellsAt,Nat.reduceAdd] at F6
 obtain ⟨⟨z0,c00,c01,c02,c03,c04,c05,c06,c07,c08,c09,c0a,-⟩,⟨z1,c10,c11,c12,c13,c14,c15,c16,c17,c18,c19,c1a,-⟩,-⟩:=F6
 go_wp2_with fail
 go_ret
 exact ⟨rfl,H5.out.bel⟩
theorem fields_yes  (w:World) :
  Calls Tryz.prog 135 #[.agg #[.int .u8 1,.int .u8 2,.int .i64 1,.string ⟨#[]⟩,.int .i64 0,.int .i64 0,.int .i64 0,.int .i64 0,.int .i64 0,.int .u8 0,.int .i64 0]] w fun e w'=>e=.returned (.int .i64 0)∧Below w.heap.size w w':=by
 have H1:=Lib.hid (((Ok.start w).alloc w.heap.size 96 [.int .u8 1,.int .u8 2,.int .i64 1,.string ⟨#[]⟩,.int .i64 0,.int .i64 0,.int .i64 0,.int .i64 0,.int .i64 0,.int .u8 0,.int .i64 0] rfl).alloc (w.heap.size+1) 96 [.int .u8 1,.int .u8 2,.int .i64 1,.string ⟨#[]⟩,.int .i64 0,.int .i64 0,.int .i64 0,.int .i64 0,.int .i64 0,.int .u8 0,.int .i64 0] (by simp))
 go_enter Tryz.func135,Tryz.ntmps135
 go_wp2_with fail
 generalize ((w.alloc (.cells #[.int .u8 1,.int .u8 2,.int .i64 1,.string ⟨#[]⟩,.int .i64 0,.int .i64 0,.int .i64 0,.int .i64 0,.int .i64 0,.int .u8 0,.int .i64 0] 96)).alloc (.cells #[.int .u8 1,.int .u8 2,.int .i64 1,.string ⟨#[]⟩,.int .i64 0,.int .i64 0,.int .i64 0,.int .i64 0,.int .i64 0,.int .u8 0,.int .i64 0] 96))=W2 at H1 ⊢
 refine (check_yes _).mono ?_
 rintro e w3 ⟨rfl,hb4⟩
 have H5:=Lib.hid (H1.out.below hb4)
 clear hb4 H1
 have F6:=H5.out.sees
 simp only [sees,kBlk,cellsAt,Nat.reduceAdd] at F6
 obtain ⟨⟨z0,c00,c01,c02,c03,c04,c05,c06,c07,c08,c09,c0a,-⟩,⟨z1,c10,c11,c12,c13,c14,c15,c16,c17,c18,c19,c1a,-⟩,-⟩:=F6
 go_wp2_with fail
 go_ret
 exact ⟨rfl,H5.out.bel⟩
theorem fields_txt (t:List UInt8) (h:t.length≤256) (hp:t.all plainB=true) (w:World) :
  Calls Tryz.prog 135 #[.agg #[.int .u8 1,.int .u8 3,.int .i64 0,.string ⟨t.toArray⟩,.int .i64 0,.int .i64 0,.int .i64 0,.int .i64 0,.int .i64 0,.int .u8 0,.int .i64 0]] w fun e w'=>e=.returned (.int .i64 0)∧Below w.heap.size w w':=by
 have H1:=Lib.hid (((Ok.start w).alloc w.heap.size 96 [.int .u8 1,.int .u8 3,.int .i64 0,.string ⟨t.toArray⟩,.int .i64 0,.int .i64 0,.int .i64 0,.int .i64 0,.int .i64 0,.int .u8 0,.int .i64 0] rfl).alloc (w.heap.size+1) 96 [.int .u8 1,.int .u8 3,.int .i64 0,.string ⟨t.toArray⟩,.int .i64 0,.int .i64 0,.int .i64 0,.int .i64 0,.int .i64 0,.int .u8 0,.int .i64 0] (by simp))
 go_enter Tryz.func135,Tryz.ntmps135
 go_wp2_with fail
 generalize ((w.alloc (.cells #[.int .u8 1,.int .u8 3,.int .i64 0,.string ⟨t.toArray⟩,.int .i64 0,.int .i64 0,.int .i64 0,.int .i64 0,.int .i64 0,.int .u8 0,.int .i64 0] 96)).alloc (.cells #[.int .u8 1,.int .u8 3,.int .i64 0,.string ⟨t.toArray⟩,.int .i64 0,.int .i64 0,.int .i64 0,.int .i64 0,.int .i64 0,.int .u8 0,.int .i64 0] 96))=W2 at H1 ⊢
 refine (check_txt t h hp _).mono ?_
 rintro e w3 ⟨rfl,hb4⟩
 have H5:=Lib.hid (H1.out.below hb4)
 clear hb4 H1
 have F6:=H5.out.sees
 simp only [sees,kBlk,cellsAt,Nat.reduceAdd] at F6
 obtain ⟨⟨z0,c00,c01,c02,c03,c04,c05,c06,c07,c08,c09,c0a,-⟩,⟨z1,c10,c11,c12,c13,c14,c15,c16,c17,c18,c19,c1a,-⟩,-⟩:=F6
 go_wp2_with fail
 go_ret
 exact ⟨rfl,H5.out.bel⟩
theorem fields_err (c:Int) (h1:1≤c) (h2:c≤5) (w:World) :
  Calls Tryz.prog 135 #[.agg #[.int .u8 1,.int .u8 4,.int .i64 c,.string ⟨#[]⟩,.int .i64 0,.int .i64 0,.int .i64 0,.int .i64 0,.int .i64 0,.int .u8 0,.int .i64 0]] w fun e w'=>e=.returned (.int .i64 0)∧Below w.heap.size w w':=by
 have H1:=Lib.hid (((Ok.start w).alloc w.heap.size 96 [.int .u8 1,.int .u8 4,.int .i64 c,.string ⟨#[]⟩,.int .i64 0,.int .i64 0,.int .i64 0,.int .i64 0,.int .i64 0,.int .u8 0,.int .i64 0] rfl).alloc (w.heap.size+1) 96 [.int .u8 1,.int .u8 4,.int .i64 c,.string ⟨#[]⟩,.int .i64 0,.int .i64 0,.int .i64 0,.int .i64 0,.int .i64 0,.int .u8 0,.int .i64 0] (by simp))
 go_enter Tryz.func135,Tryz.ntmps135
 go_wp2_with fail
 generalize ((w.alloc (.cells #[.int .u8 1,.int .u8 4,.int .i64 c,.string ⟨#[]⟩,.int .i64 0,.int .i64 0,.int .i64 0,.int .i64 0,.int .i64 0,.int .u8 0,.int .i64 0] 96)).alloc (.cells #[.int .u8 1,.int .u8 4,.int .i64 c,.string ⟨#[]⟩,.int .i64 0,.int .i64 0,.int .i64 0,.int .i64 0,.int .i64 0,.int .u8 0,.int .i64 0] 96))=W2 at H1 ⊢
 refine (check_err c h1 (by omega) _).mono ?_
 rintro e w3 ⟨rfl,hb4⟩
 have H5:=Lib.hid (H1.out.below hb4)
 clear hb4 H1
 have F6:=H5.out.sees
 simp only [sees,kBlk,cellsAt,Nat.reduceAdd] at F6
 obtain ⟨⟨z0,c00,c01,c02,c03,c04,c05,c06,c07,c08,c09,c0a,-⟩,⟨z1,c10,c11,c12,c13,c14,c15,c16,c17,c18,c19,c1a,-⟩,-⟩:=F6
 go_wp2_with fail
 go_ret
 exact ⟨rfl,H5.out.bel⟩
theorem fields_ref (c r:Int) (hc:checkB ⟨c,r,c,r⟩=true) (w:World) :
  Calls Tryz.prog 135 #[.agg #[.int .u8 2,.int .u8 0,.int .i64 0,.string ⟨#[]⟩,.int .i64 c,.int .i64 r,.int .i64 c,.int .i64 r,.int .i64 0,.int .u8 0,.int .i64 0]] w fun e w'=>e=.returned (.int .i64 0)∧Below w.heap.size w w':=by
 have HCE:=keep (checkE_yes hc)
 clear hc
 have H1:=Lib.hid (((Ok.start w).alloc w.heap.size 96 [.int .u8 2,.int .u8 0,.int .i64 0,.string ⟨#[]⟩,.int .i64 c,.int .i64 r,.int .i64 c,.int .i64 r,.int .i64 0,.int .u8 0,.int .i64 0] rfl).alloc (w.heap.size+1) 96 [.int .u8 2,.int .u8 0,.int .i64 0,.string ⟨#[]⟩,.int .i64 c,.int .i64 r,.int .i64 c,.int .i64 r,.int .i64 0,.int .u8 0,.int .i64 0] (by simp))
 go_enter Tryz.func135,Tryz.ntmps135
 go_wp2_with fail
 generalize ((w.alloc (.cells #[.int .u8 2,.int .u8 0,.int .i64 0,.string ⟨#[]⟩,.int .i64 c,.int .i64 r,.int .i64 c,.int .i64 r,.int .i64 0,.int .u8 0,.int .i64 0] 96)).alloc (.cells #[.int .u8 2,.int .u8 0,.int .i64 0,.string ⟨#[]⟩,.int .i64 c,.int .i64 r,.int .i64 c,.int .i64 r,.int .i64 0,.int .u8 0,.int .i64 0] 96))=W2 at H1 ⊢
 refine (rect_Check c r c r _).mono ?_
 rintro e w3 ⟨rfl,hb4⟩
 rw [HCE.out]
 have H5:=Lib.hid (H1.out.below hb4)
 clear hb4 H1
 have F6:=H5.out.sees
 simp only [sees,kBlk,cellsAt,Nat.reduceAdd] at F6
 obtain ⟨⟨z0,c00,c01,c02,c03,c04,c05,c06,c07,c08,c09,c0a,-⟩,⟨z1,c10,c11,c12,c13,c14,c15,c16,c17,c18,c19,c1a,-⟩,-⟩:=F6
 go_wp2_with fail
 go_ret
 exact ⟨rfl,H5.out.bel⟩
theorem fields_range1 (a b c d:Int) (hc:checkB ⟨a,b,c,d⟩=true) (hne:a≠c) (w:World) :
  Calls Tryz.prog 135 #[.agg #[.int .u8 3,.int .u8 0,.int .i64 0,.string ⟨#[]⟩,.int .i64 a,.int .i64 b,.int .i64 c,.int .i64 d,.int .i64 0,.int .u8 0,.int .i64 0]] w fun e w'=>e=.returned (.int .i64 0)∧Below w.heap.size w w':=by
 have HCE:=keep (checkE_yes hc)
 clear hc
 have H1:=Lib.hid (((Ok.start w).alloc w.heap.size 96 [.int .u8 3,.int .u8 0,.int .i64 0,.string ⟨#[]⟩,.int .i64 a,.int .i64 b,.int .i64 c,.int .i64 d,.int .i64 0,.int .u8 0,.int .i64 0] rfl).alloc (w.heap.size+1) 96 [.int .u8 3,.int .u8 0,.int .i64 0,.string ⟨#[]⟩,.int .i64 a,.int .i64 b,.int .i64 c,.int .i64 d,.int .i64 0,.int .u8 0,.int .i64 0] (by simp))
 have hb:(a == c)=false:=by simpa using hne
 clear hne
 go_enter Tryz.func135,Tryz.ntmps135
 go_wp2_with fail
 generalize ((w.alloc (.cells #[.int .u8 3,.int .u8 0,.int .i64 0,.string ⟨#[]⟩,.int .i64 a,.int .i64 b,.int .i64 c,.int .i64 d,.int .i64 0,.int .u8 0,.int .i64 0] 96)).alloc (.cells #[.int .u8 3,.int .u8 0,.int .i64 0,.string ⟨#[]⟩,.int .i64 a,.int .i64 b,.int .i64 c,.int .i64 d,.int .i64 0,.int .u8 0,.int .i64 0] 96))=W2 at H1 ⊢
 refine (rect_Check a b c d _).mono ?_
 rintro e w3 ⟨rfl,hb4⟩
 rw [HCE.out]
 have H5:=Lib.hid (H1.out.below hb4)
 clear hb4 H1
 have F6:=H5.out.sees
 simp only [sees,kBlk,cellsAt,Nat.reduceAdd] at F6
 obtain ⟨⟨z0,c00,c01,c02,c03,c04,c05,c06,c07,c08,c09,c0a,-⟩,⟨z1,c10,c11,c12,c13,c14,c15,c16,c17,c18,c19,c1a,-⟩,-⟩:=F6
 go_wp2_with fail
 go_ret
 exact ⟨rfl,H5.out.bel⟩
theorem fields_range2 (a b d:Int) (hc:checkB ⟨a,b,a,d⟩=true) (hne:b≠d) (w:World) :
  Calls Tryz.prog 135 #[.agg #[.int .u8 3,.int .u8 0,.int .i64 0,.string ⟨#[]⟩,.int .i64 a,.int .i64 b,.int .i64 a,.int .i64 d,.int .i64 0,.int .u8 0,.int .i64 0]] w fun e w'=>e=.returned (.int .i64 0)∧Below w.heap.size w w':=by
 have HCE:=keep (checkE_yes hc)
 clear hc
 have H1:=Lib.hid (((Ok.start w).alloc w.heap.size 96 [.int .u8 3,.int .u8 0,.int .i64 0,.string ⟨#[]⟩,.int .i64 a,.int .i64 b,.int .i64 a,.int .i64 d,.int .i64 0,.int .u8 0,.int .i64 0] rfl).alloc (w.heap.size+1) 96 [.int .u8 3,.int .u8 0,.int .i64 0,.string ⟨#[]⟩,.int .i64 a,.int .i64 b,.int .i64 a,.int .i64 d,.int .i64 0,.int .u8 0,.int .i64 0] (by simp))
 have hb:(b == d)=false:=by simpa using hne
 clear hne
 go_enter Tryz.func135,Tryz.ntmps135
 go_wp2_with fail
 generalize ((w.alloc (.cells #[.int .u8 3,.int .u8 0,.int .i64 0,.string ⟨#[]⟩,.int .i64 a,.int .i64 b,.int .i64 a,.int .i64 d,.int .i64 0,.int .u8 0,.int .i64 0] 96)).alloc (.cells #[.int .u8 3,.int .u8 0,.int .i64 0,.string ⟨#[]⟩,.int .i64 a,.int .i64 b,.int .i64 a,.int .i64 d,.int .i64 0,.int .u8 0,.int .i64 0] 96))=W2 at H1 ⊢
 refine (rect_Check a b a d _).mono ?_
 rintro e w3 ⟨rfl,hb4⟩
 rw [HCE.out]
 have H5:=Lib.hid (H1.out.below hb4)
 clear hb4 H1
 have F6:=H5.out.sees
 simp only [sees,kBlk,cellsAt,Nat.reduceAdd] at F6
 obtain ⟨⟨z0,c00,c01,c02,c03,c04,c05,c06,c07,c08,c09,c0a,-⟩,⟨z1,c10,c11,c12,c13,c14,c15,c16,c17,c18,c19,c1a,-⟩,-⟩:=F6
 go_wp2_with fail
 go_ret
 exact ⟨rfl,H5.out.bel⟩
theorem fields_call (fn k:Nat) (h1:1≤fn) (h2:fn≤50) (hk1:(arS fn).1≤k) (hk2:k≤(arS fn).2) (w:World) :
  Calls Tryz.prog 135 #[.agg #[.int .u8 7,.int .u8 0,.int .i64 0,.string ⟨#[]⟩,.int .i64 0,.int .i64 0,.int .i64 0,.int .i64 0,.int .i64 0,.int .u8 (fn:Nat),.int .i64 (k:Nat)]] w fun e w'=>e=.returned (.int .i64 0)∧Below w.heap.size w w':=by
 have g1:¬ ((k:Nat):Int)<((arS fn).1:Nat):=by omega
 have g2:¬ ((k:Nat):Int)>((arS fn).2:Nat):=by omega
 have H1:=Lib.hid (((Ok.start w).alloc w.heap.size 96 [.int .u8 7,.int .u8 0,.int .i64 0,.string ⟨#[]⟩,.int .i64 0,.int .i64 0,.int .i64 0,.int .i64 0,.int .i64 0,.int .u8 (fn:Nat),.int .i64 (k:Nat)] rfl).var (w.heap.size+1) 96 [.int .u8 7,.int .u8 0,.int .i64 0,.string ⟨#[]⟩,.int .i64 0,.int .i64 0,.int .i64 0,.int .i64 0,.int .i64 0,.int .u8 0,.int .i64 0] (by simp))
 go_enter Tryz.func135,Tryz.ntmps135
 go_wp2_with fail
 generalize ((w.alloc (.cells #[.int .u8 7,.int .u8 0,.int .i64 0,.string ⟨#[]⟩,.int .i64 0,.int .i64 0,.int .i64 0,.int .i64 0,.int .i64 0,.int .u8 (fn:Nat),.int .i64 (k:Nat)] 96)).alloc (.cells #[.int .u8 7,.int .u8 0,.int .i64 0,.string ⟨#[]⟩,.int .i64 0,.int .i64 0,.int .i64 0,.int .i64 0,.int .i64 0,.int .u8 0,.int .i64 0] 96))=W2 at H1 ⊢
 have F3:=H1.out.sees
 simp only [sees,kBlk,kVar,cellsAt,Nat.reduceAdd] at F3
 obtain ⟨⟨⟨z0,fz0⟩,c00,c01,c02,c03,c04,c05,c06,c07,c08,c09,c0a,-⟩,⟨z1,c10,c11,c12,c13,c14,c15,c16,c17,c18,c19,c1a,-⟩,-⟩:=F3
 go_region
 clear z0 fz0 c00 c01 c02 c03 c04 c05 c06 c07 c08 c09 c0a z1 c10 c11 c12 c13 c14 c15 c16 c17 c18 c19 c1a
 have hfar:∀ x∈[kBlk (w.heap.size) 96 [.int .u8 7,.int .u8 0,.int .i64 0,.string ⟨#[]⟩,.int .i64 0,.int .i64 0,.int .i64 0,.int .i64 0,.int .i64 0,.int .u8 (fn:Nat),.int .i64 (k:Nat)]],x.far (some (w.heap.size+1)):=by
  intro x hx
  simp at hx
  subst hx
  show some w.heap.size≠some (w.heap.size+1)
  simp
 have H5:=Lib.hid (((H1.out.set_ (i:=9) (u:=.int .u8 (fn:Nat)) (by omega) hfar).set_ (i:=10) (u:=.int .i64 (k:Nat)) (by omega) hfar).drew)
 clear hfar H1
 have H6:Hid (Ok w [kVar (w.heap.size+1) 96 [.int .u8 7,.int .u8 0,.int .i64 0,.string ⟨#[]⟩,.int .i64 0,.int .i64 0,.int .i64 0,.int .i64 0,.int .i64 0,.int .u8 (fn:Nat),.int .i64 (k:Nat)],kBlk (w.heap.size) 96 [.int .u8 7,.int .u8 0,.int .i64 0,.string ⟨#[]⟩,.int .i64 0,.int .i64 0,.int .i64 0,.int .i64 0,.int .i64 0,.int .u8 (fn:Nat),.int .i64 (k:Nat)]] (((W2.setCell ⟨w.heap.size+1,9,none⟩ (.int .u8 (fn:Nat))).setCell ⟨w.heap.size+1,10,none⟩ (.int .i64 (k:Nat))).drew)):=H5
 clear H5
 generalize ((W2.setCell ⟨w.heap.size+1,9,none⟩ (.int .u8 (fn:Nat))).setCell ⟨w.heap.size+1,10,none⟩ (.int .i64 (k:Nat))).drew=W9 at H6 ⊢
 have F4:=H6.out.sees
 simp only [sees,kBlk,kVar,cellsAt,Nat.reduceAdd] at F4
 obtain ⟨⟨⟨z0,fz0⟩,c00,c01,c02,c03,c04,c05,c06,c07,c08,c09,c0a,-⟩,⟨z1,c10,c11,c12,c13,c14,c15,c16,c17,c18,c19,c1a,-⟩,-⟩:=F4
 go_wp2_with fail
 refine (tree_Arity fn _ h1 h2).mono ?_
 rintro e w5 ⟨rfl,hw⟩
 obtain rfl:W9=w5:=hw.symm
 go_wp2_with fail
 go_ret
 exact ⟨rfl,H6.out.bel⟩
def goodNd (n:Nd):Prop :=
 (∃ vk vn vt,n=⟨1,vk,vn,vt,R4.zero,0,0,0⟩∧goodV vk vn vt)∨(∃ r,n=ndRef r∧checkB r=true∧r.c1=r.c2∧r.r1=r.r2)∨(∃ r,n=ndRange r∧checkB r=true∧¬ (r.c1=r.c2∧r.r1=r.r2)) ∨
 n=ndNeg∨n=ndPct∨(∃ op,n=ndBin op∧1≤op∧op≤12)∨∃ fn k,n=ndCall fn k∧1≤fn∧fn≤50∧(arS fn).1≤k∧k≤(arS fn).2
theorem tree_fields (n:Nd) (h:goodNd n) (w:World) :
  Calls Tryz.prog 135 #[ndA n] w fun e w'=>e=.returned (.int .i64 0)∧Below w.heap.size w w':=by
 rcases h with ⟨vk,vn,vt,rfl,hv⟩ | ⟨⟨a,b,c,d⟩,rfl,hc,h1,h2⟩ | ⟨⟨a,b,c,d⟩,rfl,hc,hne⟩ | rfl | rfl | ⟨op,rfl,h1,h2⟩ | ⟨fn,k,rfl,h1,h2,h3,h4⟩
 ·rcases hv with ⟨rfl,h1,rfl⟩ | ⟨rfl,h1 | h1,rfl⟩ | ⟨rfl,rfl,h1,h2⟩ | ⟨rfl,⟨h1,h2⟩,rfl⟩
  ·exact fields_num vn h1 w
  ·subst h1; exact fields_no w
  ·subst h1; exact fields_yes w
  ·exact fields_txt vt h1 h2 w
  ·exact fields_err vn h1 h2 w
 ·simp only [] at h1 h2
  subst h1 h2
  exact fields_ref a b hc w
 ·simp only [] at hne
  by_cases h1:a=c
  ·subst h1
   exact fields_range2 a b d hc (fun h=>hne ⟨rfl,h⟩) w
  ·exact fields_range1 a b c d hc h1 w
 ·exact fields_neg w
 ·exact fields_pct w
 ·exact fields_bin op h1 h2 w
 ·exact fields_call fn k h1 h2 h3 h4 w
