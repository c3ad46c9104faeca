/- val.Truth, val.ToBool at a text, val.Make. val.Code at any string. -/
import Derived.Test.YtfffihcadhfplaaGreatDoorPShw
import Derived.Test.YtfffihcadhfplaaGreatDoorPLexC
import Derived.Test.YtfffihcadhfplaaGreatDoorPVal
namespace Go.Proofs.YtfffihcadhfplaaGreatDoor
set_option maxRecDepth 100000
set_option maxHeartbeats 4000000
open Go.RowKit
theorem val_Truth1  (w:World) :
  Calls Tryz.prog 99 #[.bool true] w fun e w'=>e=.returned (.agg #[.int .u8 2,.int .i64 1,.string ⟨#[]⟩])∧Below w.heap.size w w':=by
 have H1:=Lib.hid ((Ok.start w).var w.heap.size 23 [.int .u8 2,.int .i64 1,.string ⟨#[]⟩] rfl)
 go_enter Tryz.func99,Tryz.ntmps99
 go_wp2_with fail
 generalize (w.alloc (.cells #[.int .u8 2,.int .i64 1,.string ⟨#[]⟩] 23))=W2 at H1 ⊢
 have F3:=H1.out.sees
 simp only [sees,kVar,cellsAt,Nat.reduceAdd] at F3
 obtain ⟨⟨⟨z0,fz0⟩,c00,c01,c02,-⟩,-⟩:=F3
 exact bodyPost_ret (v:=.agg #[.int .u8 2,.int .i64 1,.string ⟨#[]⟩]) (by simp [results,Tryz.results99,go_sem,c00,c01,c02]) rfl ⟨rfl,H1.out.bel⟩
theorem val_Truth0  (w:World) :
  Calls Tryz.prog 99 #[.bool false] w fun e w'=>e=.returned (.agg #[.int .u8 2,.int .i64 0,.string ⟨#[]⟩])∧Below w.heap.size w w':=by
 have H1:=Lib.hid ((Ok.start w).var w.heap.size 23 [.int .u8 2,.int .i64 0,.string ⟨#[]⟩] rfl)
 go_enter Tryz.func99,Tryz.ntmps99
 go_wp2_with fail
 generalize (w.alloc (.cells #[.int .u8 2,.int .i64 0,.string ⟨#[]⟩] 23))=W2 at H1 ⊢
 have F3:=H1.out.sees
 simp only [sees,kVar,cellsAt,Nat.reduceAdd] at F3
 obtain ⟨⟨⟨z0,fz0⟩,c00,c01,c02,-⟩,-⟩:=F3
 exact bodyPost_ret (v:=.agg #[.int .u8 2,.int .i64 0,.string ⟨#[]⟩]) (by simp [results,Tryz.results99,go_sem,c00,c01,c02]) rfl ⟨rfl,H1.out.bel⟩
theorem val_MakeN (n:Int) (h:(n == -9223372036854775808)=false) (w:World) :
  Calls Tryz.prog 51 #[.int .i64 n] w fun e w'=>e=.returned (.agg #[.int .u8 1,.int .i64 n,.string ⟨#[]⟩])∧Below w.heap.size w w':=by
 have H1:=Lib.hid ((Ok.start w).var w.heap.size 23 [.int .u8 1,.int .i64 n,.string ⟨#[]⟩] rfl)
 go_enter Tryz.func51,Tryz.ntmps51
 go_wp2_with fail
 generalize (w.alloc (.cells #[.int .u8 1,.int .i64 n,.string ⟨#[]⟩] 23))=W2 at H1 ⊢
 have F3:=H1.out.sees
 simp only [sees,kVar,cellsAt,Nat.reduceAdd] at F3
 obtain ⟨⟨⟨z0,fz0⟩,c00,c01,c02,-⟩,-⟩:=F3
 exact bodyPost_ret (v:=.agg #[.int .u8 1,.int .i64 n,.string ⟨#[]⟩]) (by simp [results,Tryz.results51,go_sem,c00,c01,c02]) rfl ⟨rfl,H1.out.bel⟩
theorem named_t (s X:ByteArray) (HUP:Keep (∀ w,Calls Tryz.prog 79 #[.string s] w fun e w'=>e=.returned (.string X)∧Below w.heap.size w w')) (hX:X=⟨#[84,82,85,69]⟩) (w:World) :
  Calls Tryz.prog 78 #[.agg #[.int .u8 3,.int .i64 0,.string s]] w fun e w'=>e=.returned (.agg #[.int .u8 2,.int .i64 1,.string ⟨#[]⟩])∧Below w.heap.size w w':=by
 subst hX
 have H1:=Lib.hid (((Ok.start w).alloc w.heap.size 98 [.int .u8 3,.int .i64 0,.string s] rfl).var (w.heap.size+1) 23 [.int .u8 0,.int .i64 0,.string ⟨#[]⟩] (by simp))
 go_enter Tryz.func78,Tryz.ntmps78
 go_wp2_with fail
 generalize ((w.alloc (.cells #[.int .u8 3,.int .i64 0,.string s] 98)).alloc (.cells #[.int .u8 0,.int .i64 0,.string ⟨#[]⟩] 23))=W2 at H1 ⊢
 have F3:=H1.out.sees
 simp only [sees,kBlk,kVar,cellsAt,Nat.reduceAdd] at F3
 obtain ⟨⟨⟨z0,fz0⟩,c00,c01,c02,-⟩,⟨z1,c10,c11,c12,-⟩,-⟩:=F3
 refine (HUP.out _).mono ?_
 rintro e w4 ⟨rfl,hb5⟩
 clear z0 fz0 c00 c01 c02 z1 c10 c11 c12
 have H6:=Lib.hid (H1.out.below hb5)
 clear hb5 H1
 have F7:=H6.out.sees
 simp only [sees,kBlk,kVar,cellsAt,Nat.reduceAdd] at F7
 obtain ⟨⟨⟨z0,fz0⟩,c00,c01,c02,-⟩,⟨z1,c10,c11,c12,-⟩,-⟩:=F7
 go_wp2_with fail
 refine (val_Truth1 _).mono ?_
 rintro e w8 ⟨rfl,hb9⟩
 clear z0 fz0 c00 c01 c02 z1 c10 c11 c12
 have H10:=Lib.hid (H6.out.below hb9)
 clear hb9 H6
 have F11:=H10.out.sees
 simp only [sees,kBlk,kVar,cellsAt,Nat.reduceAdd] at F11
 obtain ⟨⟨⟨z0,fz0⟩,c00,c01,c02,-⟩,⟨z1,c10,c11,c12,-⟩,-⟩:=F11
 go_wp2_with fail
 have hfar:∀ x∈[kBlk (w.heap.size) 98 [.int .u8 3,.int .i64 0,.string s]],x.far (some (w.heap.size+1)):=by
  intro x hx
  rw [List.mem_singleton] at hx
  subst hx
  show some w.heap.size≠some (w.heap.size+1)
  simp
 have HE:=Lib.hid (((H10.out.set_ (i:=0) (u:=.int .u8 2) (by omega) hfar).set_ (i:=1) (u:=.int .i64 1) (by omega) hfar).set_ (i:=2) (u:=.string ⟨#[]⟩) (by omega) hfar)
 have F9:=HE.out.sees
 simp only [sees,kVar,kBlk,cellsAt,Nat.reduceAdd,List.set_cons_succ,List.set_cons_zero] at F9
 obtain ⟨⟨⟨y0,g0⟩,q0,q1,q2,-⟩,-⟩:=F9
 exact bodyPost_ret (v:=.agg #[.int .u8 2,.int .i64 1,.string ⟨#[]⟩]) (by simp [results,Tryz.results78,go_sem,q0,q1,q2]) rfl ⟨rfl,HE.out.bel⟩
theorem named_f (s X:ByteArray) (HUP:Keep (∀ w,Calls Tryz.prog 79 #[.string s] w fun e w'=>e=.returned (.string X)∧Below w.heap.size w w')) (hX:X=⟨#[70,65,76,83,69]⟩) (w:World) :
  Calls Tryz.prog 78 #[.agg #[.int .u8 3,.int .i64 0,.string s]] w fun e w'=>e=.returned (.agg #[.int .u8 2,.int .i64 0,.string ⟨#[]⟩])∧Below w.heap.size w w':=by
 subst hX
 have H1:=Lib.hid (((Ok.start w).alloc w.heap.size 98 [.int .u8 3,.int .i64 0,.string s] rfl).var (w.heap.size+1) 23 [.int .u8 0,.int .i64 0,.string ⟨#[]⟩] (by simp))
 go_enter Tryz.func78,Tryz.ntmps78
 go_wp2_with fail
 generalize ((w.alloc (.cells #[.int .u8 3,.int .i64 0,.string s] 98)).alloc (.cells #[.int .u8 0,.int .i64 0,.string ⟨#[]⟩] 23))=W2 at H1 ⊢
 have F3:=H1.out.sees
 simp only [sees,kBlk,kVar,cellsAt,Nat.reduceAdd] at F3
 obtain ⟨⟨⟨z0,fz0⟩,c00,c01,c02,-⟩,⟨z1,c10,c11,c12,-⟩,-⟩:=F3
 refine (HUP.out _).mono ?_
 rintro e w4 ⟨rfl,hb5⟩
 clear z0 fz0 c00 c01 c02 z1 c10 c11 c12
 have H6:=Lib.hid (H1.out.below hb5)
 clear hb5 H1
 have F7:=H6.out.sees
 simp only [sees,kBlk,kVar,cellsAt,Nat.reduceAdd] at F7
 obtain ⟨⟨⟨z0,fz0⟩,c00,c01,c02,-⟩,⟨z1,c10,c11,c12,-⟩,-⟩:=F7
 go_wp2_with fail
 refine (val_Truth0 _).mono ?_
 rintro e w8 ⟨rfl,hb9⟩
 clear z0 fz0 c00 c01 c02 z1 c10 c11 c12
 have H10:=Lib.hid (H6.out.below hb9)
 clear hb9 H6
 have F11:=H10.out.sees
 simp only [sees,kBlk,kVar,cellsAt,Nat.reduceAdd] at F11
 obtain ⟨⟨⟨z0,fz0⟩,c00,c01,c02,-⟩,⟨z1,c10,c11,c12,-⟩,-⟩:=F11
 go_wp2_with fail
 have hfar:∀ x∈[kBlk (w.heap.size) 98 [.int .u8 3,.int .i64 0,.string s]],x.far (some (w.heap.size+1)):=by
  intro x hx
  rw [List.mem_singleton] at hx
  subst hx
  show some w.heap.size≠some (w.heap.size+1)
  simp
 have HE:=Lib.hid (((H10.out.set_ (i:=0) (u:=.int .u8 2) (by omega) hfar).set_ (i:=1) (u:=.int .i64 0) (by omega) hfar).set_ (i:=2) (u:=.string ⟨#[]⟩) (by omega) hfar)
 have F9:=HE.out.sees
 simp only [sees,kVar,kBlk,cellsAt,Nat.reduceAdd,List.set_cons_succ,List.set_cons_zero] at F9
 obtain ⟨⟨⟨y0,g0⟩,q0,q1,q2,-⟩,-⟩:=F9
 exact bodyPost_ret (v:=.agg #[.int .u8 2,.int .i64 0,.string ⟨#[]⟩]) (by simp [results,Tryz.results78,go_sem,q0,q1,q2]) rfl ⟨rfl,HE.out.bel⟩
theorem named_n (s X:ByteArray) (HUP:Keep (∀ w,Calls Tryz.prog 79 #[.string s] w fun e w'=>e=.returned (.string X)∧Below w.heap.size w w')) (h1:(X.toList == [84,82,85,69])=false) (h2:(X.toList == [70,65,76,83,69])=false) (w:World) :
  Calls Tryz.prog 78 #[.agg #[.int .u8 3,.int .i64 0,.string s]] w fun e w'=>e=.returned (.agg #[.int .u8 4,.int .i64 2,.string ⟨#[]⟩])∧Below w.heap.size w w':=by
 have H1:=Lib.hid (((Ok.start w).alloc w.heap.size 98 [.int .u8 3,.int .i64 0,.string s] rfl).var (w.heap.size+1) 23 [.int .u8 0,.int .i64 0,.string ⟨#[]⟩] (by simp))
 go_enter Tryz.func78,Tryz.ntmps78
 go_wp2_with fail
 generalize ((w.alloc (.cells #[.int .u8 3,.int .i64 0,.string s] 98)).alloc (.cells #[.int .u8 0,.int .i64 0,.string ⟨#[]⟩] 23))=W2 at H1 ⊢
 have F3:=H1.out.sees
 simp only [sees,kBlk,kVar,cellsAt,Nat.reduceAdd] at F3
 obtain ⟨⟨⟨z0,fz0⟩,c00,c01,c02,-⟩,⟨z1,c10,c11,c12,-⟩,-⟩:=F3
 refine (HUP.out _).mono ?_
 rintro e w4 ⟨rfl,hb5⟩
 clear z0 fz0 c00 c01 c02 z1 c10 c11 c12
 have H6:=Lib.hid (H1.out.below hb5)
 clear hb5 H1
 have F7:=H6.out.sees
 simp only [sees,kBlk,kVar,cellsAt,Nat.reduceAdd] at F7
 obtain ⟨⟨⟨z0,fz0⟩,c00,c01,c02,-⟩,⟨z1,c10,c11,c12,-⟩,-⟩:=F7
 go_wp2_with fail
 refine (fail_code 2 (by decide) (by decide) _).mono ?_
 rintro e w8 ⟨rfl,hb9⟩
 clear z0 fz0 c00 c01 c02 z1 c10 c11 c12
 have H10:=Lib.hid (H6.out.below hb9)
 clear hb9 H6
 have F11:=H10.out.sees
 simp only [sees,kBlk,kVar,cellsAt,Nat.reduceAdd] at F11
 obtain ⟨⟨⟨z0,fz0⟩,c00,c01,c02,-⟩,⟨z1,c10,c11,c12,-⟩,-⟩:=F11
 go_wp2_with fail
 have hfar:∀ x∈[kBlk (w.heap.size) 98 [.int .u8 3,.int .i64 0,.string s]],x.far (some (w.heap.size+1)):=by
  intro x hx
  rw [List.mem_singleton] at hx
  subst hx
  show some w.heap.size≠some (w.heap.size+1)
  simp
 have HE:=Lib.hid (((H10.out.set_ (i:=0) (u:=.int .u8 4) (by omega) hfar).set_ (i:=1) (u:=.int .i64 2) (by omega) hfar).set_ (i:=2) (u:=.string ⟨#[]⟩) (by omega) hfar)
 have F9:=HE.out.sees
 simp only [sees,kVar,kBlk,cellsAt,Nat.reduceAdd,List.set_cons_succ,List.set_cons_zero] at F9
 obtain ⟨⟨⟨y0,g0⟩,q0,q1,q2,-⟩,-⟩:=F9
 exact bodyPost_ret (v:=.agg #[.int .u8 4,.int .i64 2,.string ⟨#[]⟩]) (by simp [results,Tryz.results78,go_sem,q0,q1,q2]) rfl ⟨rfl,HE.out.bel⟩
def tbEs (v:Value):Array MapEntry:=#[{ key:=.int .u8 0,val:=bnd 77 v,born:=0 },{ key:=.int .u8 1,val:=bnd 77 v,born:=1 },{ key:=.int .u8 2,val:=bnd 61 v,born:=2 },{ key:=.int .u8 3,val:=bnd 78 v,born:=3 },{ key:=.int .u8 4,val:=bnd 61 v,born:=4 }]
theorem tb_0 (v:Value) (w:World):(Instr.mapUpdate 99 (.map (some w.heap.size)) (.int .u8 0) (.func (.func 77) #[v] #[])).run Tryz.prog (w.alloc (.map #[] 0))=.ok () (w.alloc (.map #[{ key:=.int .u8 0,val:=bnd 77 v,born:=0 }] 1)) :=
 ins_new _ _ _ _ tt_map tt_key _ _ _ _ (by simp [MapKept.IsKey]) rfl w
theorem tb_1 (v:Value) (w:World):(Instr.mapUpdate 99 (.map (some w.heap.size)) (.int .u8 1) (.func (.func 77) #[v] #[])).run Tryz.prog (w.alloc (.map #[{ key:=.int .u8 0,val:=bnd 77 v,born:=0 }] 1))=.ok () (w.alloc (.map #[{ key:=.int .u8 0,val:=bnd 77 v,born:=0 },{ key:=.int .u8 1,val:=bnd 77 v,born:=1 }] 2)) :=
 ins_new _ _ _ _ tt_map tt_key _ _ _ _ (by simp [MapKept.IsKey]) rfl w
theorem tb_2 (v:Value) (w:World):(Instr.mapUpdate 99 (.map (some w.heap.size)) (.int .u8 2) (.func (.func 61) #[v] #[])).run Tryz.prog (w.alloc (.map #[{ key:=.int .u8 0,val:=bnd 77 v,born:=0 },{ key:=.int .u8 1,val:=bnd 77 v,born:=1 }] 2))=.ok () (w.alloc (.map #[{ key:=.int .u8 0,val:=bnd 77 v,born:=0 },{ key:=.int .u8 1,val:=bnd 77 v,born:=1 },{ key:=.int .u8 2,val:=bnd 61 v,born:=2 }] 3)) :=
 ins_new _ _ _ _ tt_map tt_key _ _ _ _ (by simp [MapKept.IsKey]) rfl w
theorem tb_3 (v:Value) (w:World):(Instr.mapUpdate 99 (.map (some w.heap.size)) (.int .u8 3) (.func (.func 78) #[v] #[])).run Tryz.prog (w.alloc (.map #[{ key:=.int .u8 0,val:=bnd 77 v,born:=0 },{ key:=.int .u8 1,val:=bnd 77 v,born:=1 },{ key:=.int .u8 2,val:=bnd 61 v,born:=2 }] 3))=.ok () (w.alloc (.map #[{ key:=.int .u8 0,val:=bnd 77 v,born:=0 },{ key:=.int .u8 1,val:=bnd 77 v,born:=1 },{ key:=.int .u8 2,val:=bnd 61 v,born:=2 },{ key:=.int .u8 3,val:=bnd 78 v,born:=3 }] 4)) :=
 ins_new _ _ _ _ tt_map tt_key _ _ _ _ (by simp [MapKept.IsKey]) rfl w
theorem tb_4 (v:Value) (w:World):(Instr.mapUpdate 99 (.map (some w.heap.size)) (.int .u8 4) (.func (.func 61) #[v] #[])).run Tryz.prog (w.alloc (.map #[{ key:=.int .u8 0,val:=bnd 77 v,born:=0 },{ key:=.int .u8 1,val:=bnd 77 v,born:=1 },{ key:=.int .u8 2,val:=bnd 61 v,born:=2 },{ key:=.int .u8 3,val:=bnd 78 v,born:=3 }] 4))=.ok () (w.alloc (.map #[{ key:=.int .u8 0,val:=bnd 77 v,born:=0 },{ key:=.int .u8 1,val:=bnd 77 v,born:=1 },{ key:=.int .u8 2,val:=bnd 61 v,born:=2 },{ key:=.int .u8 3,val:=bnd 78 v,born:=3 },{ key:=.int .u8 4,val:=bnd 61 v,born:=4 }] 5)) :=
 ins_new _ _ _ _ tt_map tt_key _ _ _ _ (by simp [MapKept.IsKey]) rfl w
theorem tobool1 (s:ByteArray) (w:World) :
  Calls Tryz.prog 76 #[.agg #[.int .u8 3,.int .i64 0,.string s]] w fun e w'=>∃ r,e=.returned (.map (some r))∧w'.heap[r]?=some (.map (tbEs (.agg #[.int .u8 3,.int .i64 0,.string s])) 5)∧Below w.heap.size w w':=by
 have hmm:=@run_makeMap Tryz.prog
 have t0:=tb_0 (.agg #[.int .u8 3,.int .i64 0,.string s])
 have t1:=tb_1 (.agg #[.int .u8 3,.int .i64 0,.string s])
 have t2:=tb_2 (.agg #[.int .u8 3,.int .i64 0,.string s])
 have t3:=tb_3 (.agg #[.int .u8 3,.int .i64 0,.string s])
 have t4:=tb_4 (.agg #[.int .u8 3,.int .i64 0,.string s])
 obtain ⟨P,hP⟩:∃ P:Ending→World→Prop,(fun (e:Ending) (w':World)=>∃ r,e=.returned (.map (some r))∧w'.heap[r]?=some (.map (tbEs (.agg #[.int .u8 3,.int .i64 0,.string s])) 5)∧Below w.heap.size w w')=P:=⟨_,rfl⟩
 rw [hP]
 have HPP:=keep hP
 clear hP
 have H1:=Lib.hid ((Ok.start w).alloc w.heap.size 98 [.int .u8 3,.int .i64 0,.string s] rfl)
 go_enter Tryz.func76,Tryz.ntmps76
 go_upto_region 1 with fail
 generalize (w.alloc (.cells #[.int .u8 3,.int .i64 0,.string s] 98))=W2 at H1 ⊢
 have F3:=H1.out.sees
 simp only [sees,kBlk,cellsAt,Nat.reduceAdd] at F3
 obtain ⟨⟨z0,c00,c01,c02,-⟩,-⟩:=F3
 go_wp2_with fail
 first
  | go_ret
  | skip
 rw [← HPP.out]
 exact ⟨_,rfl,heap_of_alloc _ _,(H1.out.alloc_obj _).bel⟩
theorem toboolG (s:ByteArray) (r0 r1:Int) (HSZ:Hid (s.size≤4611686018427387904)) (hv:valE 3 0 s.data.toList=0) (HN:Keep (∀ w,Calls Tryz.prog 78 #[.agg #[.int .u8 3,.int .i64 0,.string s]] w fun e w'=>e=.returned (.agg #[.int .u8 r0,.int .i64 r1,.string ⟨#[]⟩])∧Below w.heap.size w w')) (w:World) :
  Calls Tryz.prog 46 #[.agg #[.int .u8 3,.int .i64 0,.string s]] w fun e w'=>e=.returned (.agg #[.int .u8 r0,.int .i64 r1,.string ⟨#[]⟩])∧Below w.heap.size w w':=by
 have H1:=Lib.hid (((Ok.start w).alloc w.heap.size 23 [.int .u8 3,.int .i64 0,.string s] rfl).var (w.heap.size+1) 23 [.int .u8 0,.int .i64 0,.string ⟨#[]⟩] (by simp))
 go_enter Tryz.func46,Tryz.ntmps46
 go_wp2_with fail
 generalize ((w.alloc (.cells #[.int .u8 3,.int .i64 0,.string s] 23)).alloc (.cells #[.int .u8 0,.int .i64 0,.string ⟨#[]⟩] 23))=W2 at H1 ⊢
 have F3:=H1.out.sees
 simp only [sees,kBlk,kVar,cellsAt,Nat.reduceAdd] at F3
 obtain ⟨⟨⟨z0,fz0⟩,c00,c01,c02,-⟩,⟨z1,c10,c11,c12,-⟩,-⟩:=F3
 refine (val_convert 76 78 (tbEs (.agg #[.int .u8 3,.int .i64 0,.string s])) 3 0 s (.agg #[.int .u8 3,.int .i64 0,.string s]) r0 r1 ⟨#[]⟩ (keep fun w=>tobool1 s w) (keep ⟨by simp [MapKept.IsKey],3,rfl⟩) HN (fun _ _=>by kernel_rfl) (fun _ _=>by kernel_rfl) HSZ hv _).mono ?_
 rintro e w4 ⟨rfl,hb5⟩
 clear z0 fz0 c00 c01 c02 z1 c10 c11 c12
 have H6:=Lib.hid (H1.out.below hb5)
 clear hb5 H1
 have F7:=H6.out.sees
 simp only [sees,kBlk,kVar,cellsAt,Nat.reduceAdd] at F7
 obtain ⟨⟨⟨z0,fz0⟩,c00,c01,c02,-⟩,⟨z1,c10,c11,c12,-⟩,-⟩:=F7
 go_wp2_with fail
 have hfar:∀ x∈[kBlk (w.heap.size) 23 [.int .u8 3,.int .i64 0,.string s]],x.far (some (w.heap.size+1)):=by
  intro x hx
  rw [List.mem_singleton] at hx
  subst hx
  show some w.heap.size≠some (w.heap.size+1)
  simp
 have HE:=Lib.hid (((H6.out.set_ (i:=0) (u:=.int .u8 r0) (by omega) hfar).set_ (i:=1) (u:=.int .i64 r1) (by omega) hfar).set_ (i:=2) (u:=.string ⟨#[]⟩) (by omega) hfar)
 have F9:=HE.out.sees
 simp only [sees,kVar,kBlk,cellsAt,Nat.reduceAdd,List.set_cons_succ,List.set_cons_zero] at F9
 obtain ⟨⟨⟨y0,g0⟩,q0,q1,q2,-⟩,-⟩:=F9
 exact bodyPost_ret (v:=.agg #[.int .u8 r0,.int .i64 r1,.string ⟨#[]⟩]) (by simp [results,Tryz.results46,go_sem,q0,q1,q2]) rfl ⟨rfl,HE.out.bel⟩
theorem eq_lit {l m:List UInt8} (h:l≠m):((⟨l.toArray⟩:ByteArray).toList == m)=false:=by
 rw [ByteArray.toList_mk]
 exact beq_eq_false_iff_ne.2 h
def tobK (l:List UInt8):Int×Int:=if l.map upB=trueB then (2,1) else if l.map upB=falseB then (2,0) else (4,2)
theorem val_ToBoolT (s:ByteArray) (hs:s.size≤4611686018427387904) (hc:checkT s.data.toList=0) (w:World) :
  Calls Tryz.prog 46 #[.agg #[.int .u8 3,.int .i64 0,.string s]] w fun e w'=>e=.returned (.agg #[.int .u8 (tobK s.data.toList).1,.int .i64 (tobK s.data.toList).2,.string ⟨#[]⟩])∧Below w.heap.size w w':=by
 have hv:valE 3 0 s.data.toList=0:=valE_yes (.inr (.inr (.inr (.inl ⟨rfl,rfl,hc⟩))))
 have HUP:=keep fun w=>glyph_Upper s w hs
 by_cases h1:s.data.toList.map upB=trueB
 ·have e:tobK s.data.toList=(2,1):=if_pos h1
  rw [e]
  rw [h1] at HUP
  exact toboolG s 2 1 (Lib.hid hs) hv (keep fun w=>named_t s _ HUP rfl w) w
 by_cases h2:s.data.toList.map upB=falseB
 ·have e:tobK s.data.toList=(2,0):=by unfold tobK; rw [if_neg h1,if_pos h2]
  rw [e]
  rw [h2] at HUP
  exact toboolG s 2 0 (Lib.hid hs) hv (keep fun w=>named_f s _ HUP rfl w) w
 ·have e:tobK s.data.toList=(4,2):=by unfold tobK; rw [if_neg h1,if_neg h2]
  rw [e]
  exact toboolG s 4 2 (Lib.hid hs) hv (keep fun w=>named_n s _ HUP (eq_lit h1) (eq_lit h2) w) w
set_option maxRecDepth 100000
set_option maxHeartbeats 4000000
def codeS (l:List UInt8):Nat:=match (allNames.drop 1).idxOf? (l.map upB) with | some k=>k+1 | none=>0
def codeE (l:List UInt8):Int:=if codeS l=0 then 4 else 0
theorem code_at {l:List UInt8} {k:Nat} (h1:1≤k) (h7:k≤7) (h:l.map upB=allNames[k]?.getD []):codeS l=k:=by
 have key:∀ k:Fin 8,1≤k.1→(allNames.drop 1).idxOf? (allNames[k.1]?.getD [])=some (k.1 - 1):=by decide
 unfold codeS
 rw [h,key ⟨k,by omega⟩ h1]
 show k - 1+1=k
 omega
theorem code_no {l:List UInt8} (h:∀ k,1≤k→k≤7→l.map upB≠allNames[k]?.getD []):codeS l=0:=by
 unfold codeS
 rw [show (allNames.drop 1).idxOf? (l.map upB)=none by
  rw [List.idxOf?_eq_none_iff]
  intro hm
  obtain ⟨i,hi,e⟩:=List.mem_iff_getElem.1 hm
  have hi7:i<7:=hi
  refine h (i+1) (by omega) (by omega) ?_
  have key : ∀ j : Fin 7,(allNames.drop 1)[j.1]'j.2 = allNames[j.1 + 1]?.getD []:=by decide
  rw [← e]
  exact key ⟨i,hi7⟩]
theorem word_ix0 (a0 a1 a2 a3 a4 a5 a6 a7:Value) (w:World):(Instr.index 65 (.agg #[a0,a1,a2,a3,a4,a5,a6,a7]) (.int .i64 0)).run Tryz.prog w=.ok a0 w:=by kernel_rfl
theorem word_ix1 (a0 a1 a2 a3 a4 a5 a6 a7:Value) (w:World):(Instr.index 65 (.agg #[a0,a1,a2,a3,a4,a5,a6,a7]) (.int .i64 1)).run Tryz.prog w=.ok a1 w:=by kernel_rfl
theorem word_ix2 (a0 a1 a2 a3 a4 a5 a6 a7:Value) (w:World):(Instr.index 65 (.agg #[a0,a1,a2,a3,a4,a5,a6,a7]) (.int .i64 2)).run Tryz.prog w=.ok a2 w:=by kernel_rfl
theorem word_ix3 (a0 a1 a2 a3 a4 a5 a6 a7:Value) (w:World):(Instr.index 65 (.agg #[a0,a1,a2,a3,a4,a5,a6,a7]) (.int .i64 3)).run Tryz.prog w=.ok a3 w:=by kernel_rfl
theorem word_ix4 (a0 a1 a2 a3 a4 a5 a6 a7:Value) (w:World):(Instr.index 65 (.agg #[a0,a1,a2,a3,a4,a5,a6,a7]) (.int .i64 4)).run Tryz.prog w=.ok a4 w:=by kernel_rfl
theorem word_ix5 (a0 a1 a2 a3 a4 a5 a6 a7:Value) (w:World):(Instr.index 65 (.agg #[a0,a1,a2,a3,a4,a5,a6,a7]) (.int .i64 5)).run Tryz.prog w=.ok a5 w:=by kernel_rfl
theorem word_ix6 (a0 a1 a2 a3 a4 a5 a6 a7:Value) (w:World):(Instr.index 65 (.agg #[a0,a1,a2,a3,a4,a5,a6,a7]) (.int .i64 6)).run Tryz.prog w=.ok a6 w:=by kernel_rfl
theorem word_ix7 (a0 a1 a2 a3 a4 a5 a6 a7:Value) (w:World):(Instr.index 65 (.agg #[a0,a1,a2,a3,a4,a5,a6,a7]) (.int .i64 7)).run Tryz.prog w=.ok a7 w:=by kernel_rfl
theorem val_CodeV (s:ByteArray) (hs:s.size≤4611686018427387904) (w:World) (hw:Words w) :
  Calls Tryz.prog 48 #[.string s] w fun e w'=>e=.returned (.tuple #[.int .i64 (codeS s.data.toList:Nat),.int .i64 (codeE s.data.toList)])∧Below w.heap.size w w':=by
 have HUP:=keep fun w=>glyph_Upper s w hs
 obtain ⟨u,hu⟩:∃ u,s.data.toList.map upB=u:=⟨_,rfl⟩
 rw [hu] at HUP
 have HAT:=keep (fun k h1 h7 h=>code_at (l:=s.data.toList) (k:=k) h1 h7 (hu.trans h))
 have HNO:=keep (fun h=>code_no (l:=s.data.toList) (by rw [hu]; exact h))
 obtain ⟨C,hC⟩:∃ C,codeS s.data.toList=C:=⟨_,rfl⟩
 obtain ⟨E,hE⟩:∃ E,codeE s.data.toList=E:=⟨_,rfl⟩
 have HE:=keep (show E=if C=0 then 4 else 0 by rw [← hE,← hC]; rfl)
 rw [hC] at HAT HNO ⊢
 rw [hE]
 obtain ⟨X,hX⟩:∃ X:ByteArray,⟨u.toArray⟩=X:=⟨_,rfl⟩
 rw [hX] at HUP
 have hXl:X.toList=u:=by rw [← hX]; exact ByteArray.toList_mk u
 have HX:=keep hXl
 have HXX:=keep hX
 have HW:=keep hw
 clear hu hC hE hX hXl hw hs
 go_enter Tryz.func48,Tryz.ntmps48
 go_wp2_with fail
 refine (HUP.out _).mono ?_
 rintro e w1 ⟨rfl,hb⟩
 have HB:=Lib.hid hb
 have hw2:=HW.out.below hb
 clear hb HUP
 obtain ⟨hg,hcells⟩:=hw2
 have k0:w1.cell? ⟨0,0,none⟩=some (.string ⟨#[]⟩):=hcells 0 (by decide)
 have k1:w1.cell? ⟨0,1,none⟩=some (.string ⟨#[35,68,73,86,47,48,33]⟩):=hcells 1 (by decide)
 have k2:w1.cell? ⟨0,2,none⟩=some (.string ⟨#[35,86,65,76,85,69,33]⟩):=hcells 2 (by decide)
 have k3:w1.cell? ⟨0,3,none⟩=some (.string ⟨#[35,78,85,77,33]⟩):=hcells 3 (by decide)
 have k4:w1.cell? ⟨0,4,none⟩=some (.string ⟨#[35,78,47,65]⟩):=hcells 4 (by decide)
 have k5:w1.cell? ⟨0,5,none⟩=some (.string ⟨#[35,82,69,70,33]⟩):=hcells 5 (by decide)
 have k6:w1.cell? ⟨0,6,none⟩=some (.string ⟨#[35,67,89,67,76,69,33]⟩):=hcells 6 (by decide)
 have k7:w1.cell? ⟨0,7,none⟩=some (.string ⟨#[35,68,69,78,73,69,68]⟩):=hcells 7 (by decide)
 clear hcells
 go_wp2_with fail
 clear k0 k1 k2 k3 k4 k5 k6 k7 hg
 go_loopw [9] (fun iv wr=>∃ k:Nat,k≤8∧iv=.int .i64 (k:Int)∧Keep (∀ j,1≤j→j<k→u≠allNames[j]?.getD [])∧wr=w1) (fun iv _=>8 - (intOf iv).toNat)
 case atStart=>exact ⟨0,by omega,rfl,keep (fun j h1 h2=>by omega),rfl⟩
 case round =>
  obtain ⟨k,hk,rfl,HJ,hwr⟩:=hrel
  obtain rfl:w1=wr:=hwr.symm
  have hk':k=0∨k=1∨k=2∨k=3∨k=4∨k=5∨k=6∨k=7∨k=8:=by omega
  rcases hk' with rfl | rfl | rfl | rfl | rfl | rfl | rfl | rfl | rfl
  ·have hix:=word_ix0
   go_wp2_with fail
   go_roundw
   case rel=>exact ⟨1,by decide,rfl,keep (fun j h1 h2=>by omega),by first | trivial | rfl⟩
   case measure=>simp [intOf]
  ·have hix:=word_ix1
   by_cases he:u=[35,68,73,86,47,48,33]
   ·have HC:=keep (HAT.out 1 (by decide) (by decide) he)
    have hx:X=⟨#[35,68,73,86,47,48,33]⟩:=by rw [← HXX.out,he]
    subst hx
    clear he
    go_wp2_with fail
    exact bodyPost_ret (v:=.tuple #[.int .i64 1,.int .i64 0]) (by simp [results,Tryz.results48,go_sem]) rfl ⟨by rw [HE.out,HC.out]; rfl,HB.out⟩
   ·have hx1:(X.toList == [35,68,73,86,47,48,33])=false:=by rw [HX.out]; exact beq_eq_false_iff_ne.2 he
    have hx2:([35,68,73,86,47,48,33] == X.toList)=false:=by rw [HX.out]; exact beq_eq_false_iff_ne.2 (fun h=>he h.symm)
    have HN:=keep he
    clear he
    go_wp2_with fail
    go_roundw
    case rel=>exact ⟨2,by decide,rfl,keep (fun j h1 h2=>by
     by_cases hj:j=1
     ·subst hj; exact HN.out
     ·exact HJ.out j h1 (by omega)),by first | trivial | rfl⟩
    case measure=>simp [intOf]
  ·have hix:=word_ix2
   by_cases he:u=[35,86,65,76,85,69,33]
   ·have HC:=keep (HAT.out 2 (by decide) (by decide) he)
    have hx:X=⟨#[35,86,65,76,85,69,33]⟩:=by rw [← HXX.out,he]
    subst hx
    clear he
    go_wp2_with fail
    exact bodyPost_ret (v:=.tuple #[.int .i64 2,.int .i64 0]) (by simp [results,Tryz.results48,go_sem]) rfl ⟨by rw [HE.out,HC.out]; rfl,HB.out⟩
   ·have hx1:(X.toList == [35,86,65,76,85,69,33])=false:=by rw [HX.out]; exact beq_eq_false_iff_ne.2 he
    have hx2:([35,86,65,76,85,69,33] == X.toList)=false:=by rw [HX.out]; exact beq_eq_false_iff_ne.2 (fun h=>he h.symm)
    have HN:=keep he
    clear he
    go_wp2_with fail
    go_roundw
    case rel=>exact ⟨3,by decide,rfl,keep (fun j h1 h2=>by
     by_cases hj:j=2
     ·subst hj; exact HN.out
     ·exact HJ.out j h1 (by omega)),by first | trivial | rfl⟩
    case measure=>simp [intOf]
  ·have hix:=word_ix3
   by_cases he:u=[35,78,85,77,33]
   ·have HC:=keep (HAT.out 3 (by decide) (by decide) he)
    have hx:X=⟨#[35,78,85,77,33]⟩:=by rw [← HXX.out,he]
    subst hx
    clear he
    go_wp2_with fail
    exact bodyPost_ret (v:=.tuple #[.int .i64 3,.int .i64 0]) (by simp [results,Tryz.results48,go_sem]) rfl ⟨by rw [HE.out,HC.out]; rfl,HB.out⟩
   ·have hx1:(X.toList == [35,78,85,77,33])=false:=by rw [HX.out]; exact beq_eq_false_iff_ne.2 he
    have hx2:([35,78,85,77,33] == X.toList)=false:=by rw [HX.out]; exact beq_eq_false_iff_ne.2 (fun h=>he h.symm)
    have HN:=keep he
    clear he
    go_wp2_with fail
    go_roundw
    case rel=>exact ⟨4,by decide,rfl,keep (fun j h1 h2=>by
     by_cases hj:j=3
     ·subst hj; exact HN.out
     ·exact HJ.out j h1 (by omega)),by first | trivial | rfl⟩
    case measure=>simp [intOf]
  ·have hix:=word_ix4
   by_cases he:u=[35,78,47,65]
   ·have HC:=keep (HAT.out 4 (by decide) (by decide) he)
    have hx:X=⟨#[35,78,47,65]⟩:=by rw [← HXX.out,he]
    subst hx
    clear he
    go_wp2_with fail
    exact bodyPost_ret (v:=.tuple #[.int .i64 4,.int .i64 0]) (by simp [results,Tryz.results48,go_sem]) rfl ⟨by rw [HE.out,HC.out]; rfl,HB.out⟩
   ·have hx1:(X.toList == [35,78,47,65])=false:=by rw [HX.out]; exact beq_eq_false_iff_ne.2 he
    have hx2:([35,78,47,65] == X.toList)=false:=by rw [HX.out]; exact beq_eq_false_iff_ne.2 (fun h=>he h.symm)
    have HN:=keep he
    clear he
    go_wp2_with fail
    go_roundw
    case rel=>exact ⟨5,by decide,rfl,keep (fun j h1 h2=>by
     by_cases hj:j=4
     ·subst hj; exact HN.out
     ·exact HJ.out j h1 (by omega)),by first | trivial | rfl⟩
    case measure=>simp [intOf]
  ·have hix:=word_ix5
   by_cases he:u=[35,82,69,70,33]
   ·have HC:=keep (HAT.out 5 (by decide) (by decide) he)
    have hx:X=⟨#[35,82,69,70,33]⟩:=by rw [← HXX.out,he]
    subst hx
    clear he
    go_wp2_with fail
    exact bodyPost_ret (v:=.tuple #[.int .i64 5,.int .i64 0]) (by simp [results,Tryz.results48,go_sem]) rfl ⟨by rw [HE.out,HC.out]; rfl,HB.out⟩
   ·have hx1:(X.toList == [35,82,69,70,33])=false:=by rw [HX.out]; exact beq_eq_false_iff_ne.2 he
    have hx2:([35,82,69,70,33] == X.toList)=false:=by rw [HX.out]; exact beq_eq_false_iff_ne.2 (fun h=>he h.symm)
    have HN:=keep he
    clear he
    go_wp2_with fail
    go_roundw
    case rel=>exact ⟨6,by decide,rfl,keep (fun j h1 h2=>by
     by_cases hj:j=5
     ·subst hj; exact HN.out
     ·exact HJ.out j h1 (by omega)),by first | trivial | rfl⟩
    case measure=>simp [intOf]
  ·have hix:=word_ix6
   by_cases he:u=[35,67,89,67,76,69,33]
   ·have HC:=keep (HAT.out 6 (by decide) (by decide) he)
    have hx:X=⟨#[35,67,89,67,76,69,33]⟩:=by rw [← HXX.out,he]
    subst hx
    clear he
    go_wp2_with fail
    exact bodyPost_ret (v:=.tuple #[.int .i64 6,.int .i64 0]) (by simp [results,Tryz.results48,go_sem]) rfl ⟨by rw [HE.out,HC.out]; rfl,HB.out⟩
   ·have hx1:(X.toList == [35,67,89,67,76,69,33])=false:=by rw [HX.out]; exact beq_eq_false_iff_ne.2 he
    have hx2:([35,67,89,67,76,69,33] == X.toList)=false:=by rw [HX.out]; exact beq_eq_false_iff_ne.2 (fun h=>he h.symm)
    have HN:=keep he
    clear he
    go_wp2_with fail
    go_roundw
    case rel=>exact ⟨7,by decide,rfl,keep (fun j h1 h2=>by
     by_cases hj:j=6
     ·subst hj; exact HN.out
     ·exact HJ.out j h1 (by omega)),by first | trivial | rfl⟩
    case measure=>simp [intOf]
  ·have hix:=word_ix7
   by_cases he:u=[35,68,69,78,73,69,68]
   ·have HC:=keep (HAT.out 7 (by decide) (by decide) he)
    have hx:X=⟨#[35,68,69,78,73,69,68]⟩:=by rw [← HXX.out,he]
    subst hx
    clear he
    go_wp2_with fail
    exact bodyPost_ret (v:=.tuple #[.int .i64 7,.int .i64 0]) (by simp [results,Tryz.results48,go_sem]) rfl ⟨by rw [HE.out,HC.out]; rfl,HB.out⟩
   ·have hx1:(X.toList == [35,68,69,78,73,69,68])=false:=by rw [HX.out]; exact beq_eq_false_iff_ne.2 he
    have hx2:([35,68,69,78,73,69,68] == X.toList)=false:=by rw [HX.out]; exact beq_eq_false_iff_ne.2 (fun h=>he h.symm)
    have HN:=keep he
    clear he
    go_wp2_with fail
    go_roundw
    case rel=>exact ⟨8,by decide,rfl,keep (fun j h1 h2=>by
     by_cases hj:j=7
     ·subst hj; exact HN.out
     ·exact HJ.out j h1 (by omega)),by first | trivial | rfl⟩
    case measure=>simp [intOf]
  ·have HC:=keep (HNO.out fun k h1 h7=>HJ.out k h1 (by omega))
   go_wp2_with fail
   exact bodyPost_ret (v:=.tuple #[.int .i64 0,.int .i64 4]) (by simp [results,Tryz.results48,go_sem]) rfl ⟨by rw [HE.out,HC.out]; rfl,HB.out⟩
