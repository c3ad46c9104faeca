/- val.Truth, val.ToBool at a text, val.Make. -/
import Derived.Test.YtfffihcadhfplaaGreatDoorQShw
import Derived.Test.YtfffihcadhfplaaGreatDoorQIterV
import Derived.Test.YtfffihcadhfplaaGreatDoorQLexC
namespace Go.Proofs.YtfffihcadhfplaaGreatDoor
set_option maxRecDepth 100000
set_option maxHeartbeats 4000000
open Go.RowKit
theorem val_Truth1  (w:World) :
  Calls Tryz.prog 99 #[.bool true] w fun e w'=>e=.returned (.agg #[.int .u8 2,.int .i64 1,.string ⟨#[]⟩])∧Below w.heap.size w w':=by
 have H1:=Lib.hid ((Ok.start w).var w.heap.size 23 [.int .u8 2,.int .i64 1,.string ⟨#[]⟩] rfl)
 go_enter Tryz.func99,Tryz.ntmps99
 go_wp2_with fail
 generalize (w.alloc (.cells #[.int .u8 2,.int .i64 1,.string ⟨#[]⟩] 23))=W2 at H1 ⊢
 have F3:=H1.out.sees
 simp only [sees,kVar,cellsAt,Nat.reduceAdd] at F3
 obtain ⟨⟨⟨z0,fz0⟩,c00,c01,c02,-⟩,-⟩:=F3
 exact bodyPost_ret (v:=.agg #[.int .u8 2,.int .i64 1,.string ⟨#[]⟩]) (by simp [results,Tryz.results99,go_sem,c00,c01,c02]) rfl ⟨rfl,H1.out.bel⟩
theorem val_Truth0  (w:World) :
  Calls Tryz.prog 99 #[.bool false] w fun e w'=>e=.returned (.agg #[.int .u8 2,.int .i64 0,.string ⟨#[]⟩])∧Below w.heap.size w w':=by
 have H1:=Lib.hid ((Ok.start w).var w.heap.size 23 [.int .u8 2,.int .i64 0,.string ⟨#[]⟩] rfl)
 go_enter Tryz.func99,Tryz.ntmps99
 go_wp2_with fail
 generalize (w.alloc (.cells #[.int .u8 2,.int .i64 0,.string ⟨#[]⟩] 23))=W2 at H1 ⊢
 have F3:=H1.out.sees
 simp only [sees,kVar,cellsAt,Nat.reduceAdd] at F3
 obtain ⟨⟨⟨z0,fz0⟩,c00,c01,c02,-⟩,-⟩:=F3
 exact bodyPost_ret (v:=.agg #[.int .u8 2,.int .i64 0,.string ⟨#[]⟩]) (by simp [results,Tryz.results99,go_sem,c00,c01,c02]) rfl ⟨rfl,H1.out.bel⟩
theorem val_MakeN (n:Int) (h:(n == -9223372036854775808)=false) (w:World) :
  Calls Tryz.prog 51 #[.int .i64 n] w fun e w'=>e=.returned (.agg #[.int .u8 1,.int .i64 n,.string ⟨#[]⟩])∧Below w.heap.size w w':=by
 have H1:=Lib.hid ((Ok.start w).var w.heap.size 23 [.int .u8 1,.int .i64 n,.string ⟨#[]⟩] rfl)
 go_enter Tryz.func51,Tryz.ntmps51
 go_wp2_with fail
 generalize (w.alloc (.cells #[.int .u8 1,.int .i64 n,.string ⟨#[]⟩] 23))=W2 at H1 ⊢
 have F3:=H1.out.sees
 simp only [sees,kVar,cellsAt,Nat.reduceAdd] at F3
 obtain ⟨⟨⟨z0,fz0⟩,c00,c01,c02,-⟩,-⟩:=F3
 exact bodyPost_ret (v:=.agg #[.int .u8 1,.int .i64 n,.string ⟨#[]⟩]) (by simp [results,Tryz.results51,go_sem,c00,c01,c02]) rfl ⟨rfl,H1.out.bel⟩
theorem named_t (s X:ByteArray) (HUP:Keep (∀ w,Calls Tryz.prog 79 #[.string s] w fun e w'=>e=.returned (.string X)∧Below w.heap.size w w')) (hX:X=⟨#[84,82,85,69]⟩) (w:World) :
  Calls Tryz.prog 78 #[.agg #[.int .u8 3,.int .i64 0,.string s]] w fun e w'=>e=.returned (.agg #[.int .u8 2,.int .i64 1,.string ⟨#[]⟩])∧Below w.heap.size w w':=by
 subst hX
 have H1:=Lib.hid (((Ok.start w).alloc w.heap.size 98 [.int .u8 3,.int .i64 0,.string s] rfl).var (w.heap.size+1) 23 [.int .u8 0,.int .i64 0,.string ⟨#[]⟩] (by simp))
 go_enter Tryz.func78,Tryz.ntmps78
 go_wp2_with fail
 generalize ((w.alloc (.cells #[.int .u8 3,.int .i64 0,.string s] 98)).alloc (.cells #[.int .u8 0,.int .i64 0,.string ⟨#[]⟩] 23))=W2 at H1 ⊢
 have F3:=H1.out.sees
 simp only [sees,kBlk,kVar,cellsAt,Nat.reduceAdd] at F3
 obtain ⟨⟨⟨z0,fz0⟩,c00,c01,c02,-⟩,⟨z1,c10,c11,c12,-⟩,-⟩:=F3
 refine (HUP.out _).mono ?_
 rintro e w4 ⟨rfl,hb5⟩
 clear z0 fz0 c00 c01 c02 z1 c10 c11 c12
 have H6:=Lib.hid (H1.out.below hb5)
 clear hb5 H1
 have F7:=H6.out.sees
 simp only [sees,kBlk,kVar,cellsAt,Nat.reduceAdd] at F7
 obtain ⟨⟨⟨z0,fz0⟩,c00,c01,c02,-⟩,⟨z1,c10,c11,c12,-⟩,-⟩:=F7
 go_wp2_with fail
 refine (val_Truth1 _).mono ?_
 rintro e w8 ⟨rfl,hb9⟩
 clear z0 fz0 c00 c01 c02 z1 c10 c11 c12
 have H10:=Lib.hid (H6.out.below hb9)
 clear hb9 H6
 have F11:=H10.out.sees
 simp only [sees,kBlk,kVar,cellsAt,Nat.reduceAdd] at F11
 obtain ⟨⟨⟨z0,fz0⟩,c00,c01,c02,-⟩,⟨z1,c10,c11,c12,-⟩,-⟩:=F11
 go_wp2_with fail
 have hfar:∀ x∈[kBlk (w.heap.size) 98 [.int .u8 3,.int .i64 0,.string s]],x.far (some (w.heap.size+1)):=by
  intro x hx
  rw [List.mem_singleton] at hx
  subst hx
  show some w.heap.size≠some (w.heap.size+1)
  simp
 have HE:=Lib.hid (((H10.out.set_ (i:=0) (u:=.int .u8 2) (by omega) hfar).set_ (i:=1) (u:=.int .i64 1) (by omega) hfar).set_ (i:=2) (u:=.string ⟨#[]⟩) (by omega) hfar)
 have F9:=HE.out.sees
 simp only [sees,kVar,kBlk,cellsAt,Nat.reduceAdd,List.set_cons_succ,List.set_cons_zero] at F9
 obtain ⟨⟨⟨y0,g0⟩,r0,r1,r2,-⟩,-⟩:=F9
 exact bodyPost_ret (v:=.agg #[.int .u8 2,.int .i64 1,.string ⟨#[]⟩]) (by simp [results,Tryz.results78,go_sem,r0,r1,r2]) rfl ⟨rfl,HE.out.bel⟩
theorem named_f (s X:ByteArray) (HUP:Keep (∀ w,Calls Tryz.prog 79 #[.string s] w fun e w'=>e=.returned (.string X)∧Below w.heap.size w w')) (hX:X=⟨#[70,65,76,83,69]⟩) (w:World) :
  Calls Tryz.prog 78 #[.agg #[.int .u8 3,.int .i64 0,.string s]] w fun e w'=>e=.returned (.agg #[.int .u8 2,.int .i64 0,.string ⟨#[]⟩])∧Below w.heap.size w w':=by
 subst hX
 have H1:=Lib.hid (((Ok.start w).alloc w.heap.size 98 [.int .u8 3,.int .i64 0,.string s] rfl).var (w.heap.size+1) 23 [.int .u8 0,.int .i64 0,.string ⟨#[]⟩] (by simp))
 go_enter Tryz.func78,Tryz.ntmps78
 go_wp2_with fail
 generalize ((w.alloc (.cells #[.int .u8 3,.int .i64 0,.string s] 98)).alloc (.cells #[.int .u8 0,.int .i64 0,.string ⟨#[]⟩] 23))=W2 at H1 ⊢
 have F3:=H1.out.sees
 simp only [sees,kBlk,kVar,cellsAt,Nat.reduceAdd] at F3
 obtain ⟨⟨⟨z0,fz0⟩,c00,c01,c02,-⟩,⟨z1,c10,c11,c12,-⟩,-⟩:=F3
 refine (HUP.out _).mono ?_
 rintro e w4 ⟨rfl,hb5⟩
 clear z0 fz0 c00 c01 c02 z1 c10 c11 c12
 have H6:=Lib.hid (H1.out.below hb5)
 clear hb5 H1
 have F7:=H6.out.sees
 simp only [sees,kBlk,kVar,cellsAt,Nat.reduceAdd] at F7
 obtain ⟨⟨⟨z0,fz0⟩,c00,c01,c02,-⟩,⟨z1,c10,c11,c12,-⟩,-⟩:=F7
 go_wp2_with fail
 refine (val_Truth0 _).mono ?_
 rintro e w8 ⟨rfl,hb9⟩
 clear z0 fz0 c00 c01 c02 z1 c10 c11 c12
 have H10:=Lib.hid (H6.out.below hb9)
 clear hb9 H6
 have F11:=H10.out.sees
 simp only [sees,kBlk,kVar,cellsAt,Nat.reduceAdd] at F11
 obtain ⟨⟨⟨z0,fz0⟩,c00,c01,c02,-⟩,⟨z1,c10,c11,c12,-⟩,-⟩:=F11
 go_wp2_with fail
 have hfar:∀ x∈[kBlk (w.heap.size) 98 [.int .u8 3,.int .i64 0,.string s]],x.far (some (w.heap.size+1)):=by
  intro x hx
  rw [List.mem_singleton] at hx
  subst hx
  show some w.heap.size≠some (w.heap.size+1)
  simp
 have HE:=Lib.hid (((H10.out.set_ (i:=0) (u:=.int .u8 2) (by omega) hfar).set_ (i:=1) (u:=.int .i64 0) (by omega) hfar).set_ (i:=2) (u:=.string ⟨#[]⟩) (by omega) hfar)
 have F9:=HE.out.sees
 simp only [sees,kVar,kBlk,cellsAt,Nat.reduceAdd,List.set_cons_succ,List.set_cons_zero] at F9
 obtain ⟨⟨⟨y0,g0⟩,r0,r1,r2,-⟩,-⟩:=F9
 exact bodyPost_ret (v:=.agg #[.int .u8 2,.int .i64 0,.string ⟨#[]⟩]) (by simp [results,Tryz.results78,go_sem,r0,r1,r2]) rfl ⟨rfl,HE.out.bel⟩
theorem named_n (s X:ByteArray) (HUP:Keep (∀ w,Calls Tryz.prog 79 #[.string s] w fun e w'=>e=.returned (.string X)∧Below w.heap.size w w')) (h1:(X.toList == [84,82,85,69])=false) (h2:(X.toList == [70,65,76,83,69])=false) (w:World) :
  Calls Tryz.prog 78 #[.agg #[.int .u8 3,.int .i64 0,.string s]] w fun e w'=>e=.returned (.agg #[.int .u8 4,.int .i64 2,.string ⟨#[]⟩])∧Below w.heap.size w w':=by
 have H1:=Lib.hid (((Ok.start w).alloc w.heap.size 98 [.int .u8 3,.int .i64 0,.string s] rfl).var (w.heap.size+1) 23 [.int .u8 0,.int .i64 0,.string ⟨#[]⟩] (by simp))
 go_enter Tryz.func78,Tryz.ntmps78
 go_wp2_with fail
 generalize ((w.alloc (.cells #[.int .u8 3,.int .i64 0,.string s] 98)).alloc (.cells #[.int .u8 0,.int .i64 0,.string ⟨#[]⟩] 23))=W2 at H1 ⊢
 have F3:=H1.out.sees
 simp only [sees,kBlk,kVar,cellsAt,Nat.reduceAdd] at F3
 obtain ⟨⟨⟨z0,fz0⟩,c00,c01,c02,-⟩,⟨z1,c10,c11,c12,-⟩,-⟩:=F3
 refine (HUP.out _).mono ?_
 rintro e w4 ⟨rfl,hb5⟩
 clear z0 fz0 c00 c01 c02 z1 c10 c11 c12
 have H6:=Lib.hid (H1.out.below hb5)
 clear hb5 H1
 have F7:=H6.out.sees
 simp only [sees,kBlk,kVar,cellsAt,Nat.reduceAdd] at F7
 obtain ⟨⟨⟨z0,fz0⟩,c00,c01,c02,-⟩,⟨z1,c10,c11,c12,-⟩,-⟩:=F7
 go_wp2_with fail
 refine (fail_code 2 (by decide) (by decide) _).mono ?_
 rintro e w8 ⟨rfl,hb9⟩
 clear z0 fz0 c00 c01 c02 z1 c10 c11 c12
 have H10:=Lib.hid (H6.out.below hb9)
 clear hb9 H6
 have F11:=H10.out.sees
 simp only [sees,kBlk,kVar,cellsAt,Nat.reduceAdd] at F11
 obtain ⟨⟨⟨z0,fz0⟩,c00,c01,c02,-⟩,⟨z1,c10,c11,c12,-⟩,-⟩:=F11
 go_wp2_with fail
 have hfar:∀ x∈[kBlk (w.heap.size) 98 [.int .u8 3,.int .i64 0,.string s]],x.far (some (w.heap.size+1)):=by
  intro x hx
  rw [List.mem_singleton] at hx
  subst hx
  show some w.heap.size≠some (w.heap.size+1)
  simp
 have HE:=Lib.hid (((H10.out.set_ (i:=0) (u:=.int .u8 4) (by omega) hfar).set_ (i:=1) (u:=.int .i64 2) (by omega) hfar).set_ (i:=2) (u:=.string ⟨#[]⟩) (by omega) hfar)
 have F9:=HE.out.sees
 simp only [sees,kVar,kBlk,cellsAt,Nat.reduceAdd,List.set_cons_succ,List.set_cons_zero] at F9
 obtain ⟨⟨⟨y0,g0⟩,r0,r1,r2,-⟩,-⟩:=F9
 exact bodyPost_ret (v:=.agg #[.int .u8 4,.int .i64 2,.string ⟨#[]⟩]) (by simp [results,Tryz.results78,go_sem,r0,r1,r2]) rfl ⟨rfl,HE.out.bel⟩
def tbEs (v:Value):Array MapEntry:=#[{ key:=.int .u8 0,val:=bnd 77 v,born:=0 },{ key:=.int .u8 1,val:=bnd 77 v,born:=1 },{ key:=.int .u8 2,val:=bnd 61 v,born:=2 },{ key:=.int .u8 3,val:=bnd 78 v,born:=3 },{ key:=.int .u8 4,val:=bnd 61 v,born:=4 }]
theorem tb_0 (v:Value) (w:World):(Instr.mapUpdate 99 (.map (some w.heap.size)) (.int .u8 0) (.func (.func 77) #[v] #[])).run Tryz.prog (w.alloc (.map #[] 0))=.ok () (w.alloc (.map #[{ key:=.int .u8 0,val:=bnd 77 v,born:=0 }] 1)) :=
 ins_new _ _ _ _ tt_map tt_key _ _ _ _ (by simp [MapKept.IsKey]) rfl w
theorem tb_1 (v:Value) (w:World):(Instr.mapUpdate 99 (.map (some w.heap.size)) (.int .u8 1) (.func (.func 77) #[v] #[])).run Tryz.prog (w.alloc (.map #[{ key:=.int .u8 0,val:=bnd 77 v,born:=0 }] 1))=.ok () (w.alloc (.map #[{ key:=.int .u8 0,val:=bnd 77 v,born:=0 },{ key:=.int .u8 1,val:=bnd 77 v,born:=1 }] 2)) :=
 ins_new _ _ _ _ tt_map tt_key _ _ _ _ (by simp [MapKept.IsKey]) rfl w
theorem tb_2 (v:Value) (w:World):(Instr.mapUpdate 99 (.map (some w.heap.size)) (.int .u8 2) (.func (.func 61) #[v] #[])).run Tryz.prog (w.alloc (.map #[{ key:=.int .u8 0,val:=bnd 77 v,born:=0 },{ key:=.int .u8 1,val:=bnd 77 v,born:=1 }] 2))=.ok () (w.alloc (.map #[{ key:=.int .u8 0,val:=bnd 77 v,born:=0 },{ key:=.int .u8 1,val:=bnd 77 v,born:=1 },{ key:=.int .u8 2,val:=bnd 61 v,born:=2 }] 3)) :=
 ins_new _ _ _ _ tt_map tt_key _ _ _ _ (by simp [MapKept.IsKey]) rfl w
theorem tb_3 (v:Value) (w:World):(Instr.mapUpdate 99 (.map (some w.heap.size)) (.int .u8 3) (.func (.func 78) #[v] #[])).run Tryz.prog (w.alloc (.map #[{ key:=.int .u8 0,val:=bnd 77 v,born:=0 },{ key:=.int .u8 1,val:=bnd 77 v,born:=1 },{ key:=.int .u8 2,val:=bnd 61 v,born:=2 }] 3))=.ok () (w.alloc (.map #[{ key:=.int .u8 0,val:=bnd 77 v,born:=0 },{ key:=.int .u8 1,val:=bnd 77 v,born:=1 },{ key:=.int .u8 2,val:=bnd 61 v,born:=2 },{ key:=.int .u8 3,val:=bnd 78 v,born:=3 }] 4)) :=
 ins_new _ _ _ _ tt_map tt_key _ _ _ _ (by simp [MapKept.IsKey]) rfl w
theorem tb_4 (v:Value) (w:World):(Instr.mapUpdate 99 (.map (some w.heap.size)) (.int .u8 4) (.func (.func 61) #[v] #[])).run Tryz.prog (w.alloc (.map #[{ key:=.int .u8 0,val:=bnd 77 v,born:=0 },{ key:=.int .u8 1,val:=bnd 77 v,born:=1 },{ key:=.int .u8 2,val:=bnd 61 v,born:=2 },{ key:=.int .u8 3,val:=bnd 78 v,born:=3 }] 4))=.ok () (w.alloc (.map #[{ key:=.int .u8 0,val:=bnd 77 v,born:=0 },{ key:=.int .u8 1,val:=bnd 77 v,born:=1 },{ key:=.int .u8 2,val:=bnd 61 v,born:=2 },{ key:=.int .u8 3,val:=bnd 78 v,born:=3 },{ key:=.int .u8 4,val:=bnd 61 v,born:=4 }] 5)) :=
 ins_new _ _ _ _ tt_map tt_key _ _ _ _ (by simp [MapKept.IsKey]) rfl w
theorem tobool1 (s:ByteArray) (w:World) :
  Calls Tryz.prog 76 #[.agg #[.int .u8 3,.int .i64 0,.string s]] w fun e w'=>∃ r,e=.returned (.map (some r))∧w'.heap[r]?=some (.map (tbEs (.agg #[.int .u8 3,.int .i64 0,.string s])) 5)∧Below w.heap.size w w':=by
 have hmm:=@run_makeMap Tryz.prog
 have t0:=tb_0 (.agg #[.int .u8 3,.int .i64 0,.string s])
 have t1:=tb_1 (.agg #[.int .u8 3,.int .i64 0,.string s])
 have t2:=tb_2 (.agg #[.int .u8 3,.int .i64 0,.string s])
 have t3:=tb_3 (.agg #[.int .u8 3,.int .i64 0,.string s])
 have t4:=tb_4 (.agg #[.int .u8 3,.int .i64 0,.string s])
 obtain ⟨P,hP⟩:∃ P:Ending→World→Prop,(fun (e:Ending) (w':World)=>∃ r,e=.returned (.map (some r))∧w'.heap[r]?=some (.map (tbEs (.agg #[.int .u8 3,.int .i64 0,.string s])) 5)∧Below w.heap.size w w')=P:=⟨_,rfl⟩
 rw [hP]
 have HPP:=keep hP
 clear hP
 have H1:=Lib.hid ((Ok.start w).alloc w.heap.size 98 [.int .u8 3,.int .i64 0,.string s] rfl)
 go_enter Tryz.func76,Tryz.ntmps76
 go_upto_region 1 with fail
 generalize (w.alloc (.cells #[.int .u8 3,.int .i64 0,.string s] 98))=W2 at H1 ⊢
 have F3:=H1.out.sees
 simp only [sees,kBlk,cellsAt,Nat.reduceAdd] at F3
 obtain ⟨⟨z0,c00,c01,c02,-⟩,-⟩:=F3
 go_wp2_with fail
 first
  | go_ret
  | skip
 rw [← HPP.out]
 exact ⟨_,rfl,heap_of_alloc _ _,(H1.out.alloc_obj _).bel⟩
theorem cvb_t (s X:ByteArray) (HUP:Keep (∀ w,Calls Tryz.prog 79 #[.string s] w fun e w'=>e=.returned (.string X)∧Below w.heap.size w w')) (HSZ:Hid (s.size≤4611686018427387904)) (hv:valE 3 0 s.data.toList=0) (HX:Keep (X=⟨#[84,82,85,69]⟩)) (w:World) :
  Calls Tryz.prog 59 #[.agg #[.int .u8 3,.int .i64 0,.string s],.func (.func 76) #[] #[]] w fun e w'=>e=.returned (.agg #[.int .u8 2,.int .i64 1,.string ⟨#[]⟩])∧Below w.heap.size w w':=by
 have HVE:=keep hv
 clear hv
 have H1:=Lib.hid (((Ok.start w).alloc w.heap.size 23 [.int .u8 3,.int .i64 0,.string s] rfl).var (w.heap.size+1) 23 [.int .u8 0,.int .i64 0,.string ⟨#[]⟩] (by simp))
 go_enter Tryz.func59,Tryz.ntmps59
 go_upto_region 1 with fail
 generalize ((w.alloc (.cells #[.int .u8 3,.int .i64 0,.string s] 23)).alloc (.cells #[.int .u8 0,.int .i64 0,.string ⟨#[]⟩] 23))=W2 at H1 ⊢
 refine wp_region_held_drew (S:=fun W=>Ok w [kVar (w.heap.size+1) 23 [.int .u8 0,.int .i64 0,.string ⟨#[]⟩],kBlk (w.heap.size) 23 [.int .u8 3,.int .i64 0,.string s]] W) (by kernel_rfl) H1.out.drew (fun hHeld => ?_)
 have H3:=Lib.hid H1.out.drew
 clear H1
 generalize W2.drew=W4 at hHeld H3 ⊢
 refine wt3 (i:=0) rfl (by assumption) ?_
 refine wt3 (i:=1) rfl (by assumption) ?_
 refine wt3 (i:=3) rfl (by assumption) ?_
 refine wt3 (i:=4) rfl (by assumption) ?_
 refine wal (i:=2) rfl (fun K hK => ?_)
 go_simp
 refine (tobool1 s _).mono ?_
 rintro e w5 ⟨r,rfl,hr,hb6⟩
 go_wp2_with fail
 have H7:=Lib.hid (H3.out.below hb6)
 clear hb6 H3
 have hlk:=look_ok (i:=3) _ _ _ _ tt_map tt_key hr (.int .u8 3) (.func (.func 78) #[.agg #[.int .u8 3,.int .i64 0,.string s]] #[]) (by simp [MapKept.IsKey]) rfl
 have HR:=keep hr
 clear hr
 refine hK.out _ _ (H7.out) (fun hHeld => ?_)
 clear hK K
 try simp only [Act.put,wp1,wp2,wp3,wp4,wp5,wp6]
 refine wal (i:=5) rfl (fun K hK => ?_)
 go_simp
 go_wp2_with fail
 clear hlk HR
 refine hK.out _ _ (H7.out) (fun hHeld => ?_)
 clear hK K
 try simp only [Act.put,wp1,wp2,wp3,wp4,wp5,wp6]
 refine wt3 (i:=6) rfl (by assumption) ?_
 refine wt3 (i:=7) rfl (by assumption) ?_
 refine wt3 (i:=8) rfl (by assumption) ?_
 refine wt3 (i:=9) rfl (by assumption) ?_
 refine wt3 (i:=10) rfl (by assumption) ?_
 refine wpAnyH_done (by kernel_rfl) ?_ _
 clear hHeld
 have F8:=H7.out.sees
 simp only [sees,kBlk,kVar,cellsAt,Nat.reduceAdd] at F8
 obtain ⟨⟨⟨z0,fz0⟩,c00,c01,c02,-⟩,⟨z1,c10,c11,c12,-⟩,-⟩:=F8
 go_wp2_with fail
 refine (val_Check 3 0 s HSZ.out _).mono ?_
 rintro e w9 ⟨rfl,hb10⟩
 rw [HVE.out]
 clear z0 fz0 c00 c01 c02 z1 c10 c11 c12
 have H11:=Lib.hid (H7.out.below hb10)
 clear hb10 H7
 have F12:=H11.out.sees
 simp only [sees,kBlk,kVar,cellsAt,Nat.reduceAdd] at F12
 obtain ⟨⟨⟨z0,fz0⟩,c00,c01,c02,-⟩,⟨z1,c10,c11,c12,-⟩,-⟩:=F12
 go_wp2_with fail
 refine (named_t s X HUP HX.out _).mono ?_
 rintro e w13 ⟨rfl,hb14⟩
 clear z0 fz0 c00 c01 c02 z1 c10 c11 c12
 have H15:=Lib.hid (H11.out.below hb14)
 clear hb14 H11
 have F16:=H15.out.sees
 simp only [sees,kBlk,kVar,cellsAt,Nat.reduceAdd] at F16
 obtain ⟨⟨⟨z0,fz0⟩,c00,c01,c02,-⟩,⟨z1,c10,c11,c12,-⟩,-⟩:=F16
 go_wp2_with fail
 have hfar:∀ x∈[kBlk (w.heap.size) 23 [.int .u8 3,.int .i64 0,.string s]],x.far (some (w.heap.size+1)):=by
  intro x hx
  rw [List.mem_singleton] at hx
  subst hx
  show some w.heap.size≠some (w.heap.size+1)
  simp
 have HE:=Lib.hid (((H15.out.set_ (i:=0) (u:=.int .u8 2) (by omega) hfar).set_ (i:=1) (u:=.int .i64 1) (by omega) hfar).set_ (i:=2) (u:=.string ⟨#[]⟩) (by omega) hfar)
 have F9:=HE.out.sees
 simp only [sees,kVar,kBlk,cellsAt,Nat.reduceAdd,List.set_cons_succ,List.set_cons_zero] at F9
 obtain ⟨⟨⟨y0,g0⟩,r0,r1,r2,-⟩,-⟩:=F9
 exact bodyPost_ret (v:=.agg #[.int .u8 2,.int .i64 1,.string ⟨#[]⟩]) (by simp [results,Tryz.results59,go_sem,r0,r1,r2]) rfl ⟨rfl,HE.out.bel⟩
theorem tob_t (s X:ByteArray) (HUP:Keep (∀ w,Calls Tryz.prog 79 #[.string s] w fun e w'=>e=.returned (.string X)∧Below w.heap.size w w')) (HSZ:Hid (s.size≤4611686018427387904)) (hv:valE 3 0 s.data.toList=0) (HX:Keep (X=⟨#[84,82,85,69]⟩)) (w:World) :
  Calls Tryz.prog 46 #[.agg #[.int .u8 3,.int .i64 0,.string s]] w fun e w'=>e=.returned (.agg #[.int .u8 2,.int .i64 1,.string ⟨#[]⟩])∧Below w.heap.size w w':=by
 have HVE:=keep hv
 clear hv
 have H1:=Lib.hid (((Ok.start w).alloc w.heap.size 23 [.int .u8 3,.int .i64 0,.string s] rfl).var (w.heap.size+1) 23 [.int .u8 0,.int .i64 0,.string ⟨#[]⟩] (by simp))
 go_enter Tryz.func46,Tryz.ntmps46
 go_wp2_with fail
 generalize ((w.alloc (.cells #[.int .u8 3,.int .i64 0,.string s] 23)).alloc (.cells #[.int .u8 0,.int .i64 0,.string ⟨#[]⟩] 23))=W2 at H1 ⊢
 have F3:=H1.out.sees
 simp only [sees,kBlk,kVar,cellsAt,Nat.reduceAdd] at F3
 obtain ⟨⟨⟨z0,fz0⟩,c00,c01,c02,-⟩,⟨z1,c10,c11,c12,-⟩,-⟩:=F3
 refine (cvb_t s X HUP HSZ HVE.out HX _).mono ?_
 rintro e w4 ⟨rfl,hb5⟩
 clear z0 fz0 c00 c01 c02 z1 c10 c11 c12
 have H6:=Lib.hid (H1.out.below hb5)
 clear hb5 H1
 have F7:=H6.out.sees
 simp only [sees,kBlk,kVar,cellsAt,Nat.reduceAdd] at F7
 obtain ⟨⟨⟨z0,fz0⟩,c00,c01,c02,-⟩,⟨z1,c10,c11,c12,-⟩,-⟩:=F7
 go_wp2_with fail
 have hfar:∀ x∈[kBlk (w.heap.size) 23 [.int .u8 3,.int .i64 0,.string s]],x.far (some (w.heap.size+1)):=by
  intro x hx
  rw [List.mem_singleton] at hx
  subst hx
  show some w.heap.size≠some (w.heap.size+1)
  simp
 have HE:=Lib.hid (((H6.out.set_ (i:=0) (u:=.int .u8 2) (by omega) hfar).set_ (i:=1) (u:=.int .i64 1) (by omega) hfar).set_ (i:=2) (u:=.string ⟨#[]⟩) (by omega) hfar)
 have F9:=HE.out.sees
 simp only [sees,kVar,kBlk,cellsAt,Nat.reduceAdd,List.set_cons_succ,List.set_cons_zero] at F9
 obtain ⟨⟨⟨y0,g0⟩,r0,r1,r2,-⟩,-⟩:=F9
 exact bodyPost_ret (v:=.agg #[.int .u8 2,.int .i64 1,.string ⟨#[]⟩]) (by simp [results,Tryz.results46,go_sem,r0,r1,r2]) rfl ⟨rfl,HE.out.bel⟩
theorem cvb_f (s X:ByteArray) (HUP:Keep (∀ w,Calls Tryz.prog 79 #[.string s] w fun e w'=>e=.returned (.string X)∧Below w.heap.size w w')) (HSZ:Hid (s.size≤4611686018427387904)) (hv:valE 3 0 s.data.toList=0) (HX:Keep (X=⟨#[70,65,76,83,69]⟩)) (w:World) :
  Calls Tryz.prog 59 #[.agg #[.int .u8 3,.int .i64 0,.string s],.func (.func 76) #[] #[]] w fun e w'=>e=.returned (.agg #[.int .u8 2,.int .i64 0,.string ⟨#[]⟩])∧Below w.heap.size w w':=by
 have HVE:=keep hv
 clear hv
 have H1:=Lib.hid (((Ok.start w).alloc w.heap.size 23 [.int .u8 3,.int .i64 0,.string s] rfl).var (w.heap.size+1) 23 [.int .u8 0,.int .i64 0,.string ⟨#[]⟩] (by simp))
 go_enter Tryz.func59,Tryz.ntmps59
 go_upto_region 1 with fail
 generalize ((w.alloc (.cells #[.int .u8 3,.int .i64 0,.string s] 23)).alloc (.cells #[.int .u8 0,.int .i64 0,.string ⟨#[]⟩] 23))=W2 at H1 ⊢
 refine wp_region_held_drew (S:=fun W=>Ok w [kVar (w.heap.size+1) 23 [.int .u8 0,.int .i64 0,.string ⟨#[]⟩],kBlk (w.heap.size) 23 [.int .u8 3,.int .i64 0,.string s]] W) (by kernel_rfl) H1.out.drew (fun hHeld => ?_)
 have H3:=Lib.hid H1.out.drew
 clear H1
 generalize W2.drew=W4 at hHeld H3 ⊢
 refine wt3 (i:=0) rfl (by assumption) ?_
 refine wt3 (i:=1) rfl (by assumption) ?_
 refine wt3 (i:=3) rfl (by assumption) ?_
 refine wt3 (i:=4) rfl (by assumption) ?_
 refine wal (i:=2) rfl (fun K hK => ?_)
 go_simp
 refine (tobool1 s _).mono ?_
 rintro e w5 ⟨r,rfl,hr,hb6⟩
 go_wp2_with fail
 have H7:=Lib.hid (H3.out.below hb6)
 clear hb6 H3
 have hlk:=look_ok (i:=3) _ _ _ _ tt_map tt_key hr (.int .u8 3) (.func (.func 78) #[.agg #[.int .u8 3,.int .i64 0,.string s]] #[]) (by simp [MapKept.IsKey]) rfl
 have HR:=keep hr
 clear hr
 refine hK.out _ _ (H7.out) (fun hHeld => ?_)
 clear hK K
 try simp only [Act.put,wp1,wp2,wp3,wp4,wp5,wp6]
 refine wal (i:=5) rfl (fun K hK => ?_)
 go_simp
 go_wp2_with fail
 clear hlk HR
 refine hK.out _ _ (H7.out) (fun hHeld => ?_)
 clear hK K
 try simp only [Act.put,wp1,wp2,wp3,wp4,wp5,wp6]
 refine wt3 (i:=6) rfl (by assumption) ?_
 refine wt3 (i:=7) rfl (by assumption) ?_
 refine wt3 (i:=8) rfl (by assumption) ?_
 refine wt3 (i:=9) rfl (by assumption) ?_
 refine wt3 (i:=10) rfl (by assumption) ?_
 refine wpAnyH_done (by kernel_rfl) ?_ _
 clear hHeld
 have F8:=H7.out.sees
 simp only [sees,kBlk,kVar,cellsAt,Nat.reduceAdd] at F8
 obtain ⟨⟨⟨z0,fz0⟩,c00,c01,c02,-⟩,⟨z1,c10,c11,c12,-⟩,-⟩:=F8
 go_wp2_with fail
 refine (val_Check 3 0 s HSZ.out _).mono ?_
 rintro e w9 ⟨rfl,hb10⟩
 rw [HVE.out]
 clear z0 fz0 c00 c01 c02 z1 c10 c11 c12
 have H11:=Lib.hid (H7.out.below hb10)
 clear hb10 H7
 have F12:=H11.out.sees
 simp only [sees,kBlk,kVar,cellsAt,Nat.reduceAdd] at F12
 obtain ⟨⟨⟨z0,fz0⟩,c00,c01,c02,-⟩,⟨z1,c10,c11,c12,-⟩,-⟩:=F12
 go_wp2_with fail
 refine (named_f s X HUP HX.out _).mono ?_
 rintro e w13 ⟨rfl,hb14⟩
 clear z0 fz0 c00 c01 c02 z1 c10 c11 c12
 have H15:=Lib.hid (H11.out.below hb14)
 clear hb14 H11
 have F16:=H15.out.sees
 simp only [sees,kBlk,kVar,cellsAt,Nat.reduceAdd] at F16
 obtain ⟨⟨⟨z0,fz0⟩,c00,c01,c02,-⟩,⟨z1,c10,c11,c12,-⟩,-⟩:=F16
 go_wp2_with fail
 have hfar:∀ x∈[kBlk (w.heap.size) 23 [.int .u8 3,.int .i64 0,.string s]],x.far (some (w.heap.size+1)):=by
  intro x hx
  rw [List.mem_singleton] at hx
  subst hx
  show some w.heap.size≠some (w.heap.size+1)
  simp
 have HE:=Lib.hid (((H15.out.set_ (i:=0) (u:=.int .u8 2) (by omega) hfar).set_ (i:=1) (u:=.int .i64 0) (by omega) hfar).set_ (i:=2) (u:=.string ⟨#[]⟩) (by omega) hfar)
 have F9:=HE.out.sees
 simp only [sees,kVar,kBlk,cellsAt,Nat.reduceAdd,List.set_cons_succ,List.set_cons_zero] at F9
 obtain ⟨⟨⟨y0,g0⟩,r0,r1,r2,-⟩,-⟩:=F9
 exact bodyPost_ret (v:=.agg #[.int .u8 2,.int .i64 0,.string ⟨#[]⟩]) (by simp [results,Tryz.results59,go_sem,r0,r1,r2]) rfl ⟨rfl,HE.out.bel⟩
theorem tob_f (s X:ByteArray) (HUP:Keep (∀ w,Calls Tryz.prog 79 #[.string s] w fun e w'=>e=.returned (.string X)∧Below w.heap.size w w')) (HSZ:Hid (s.size≤4611686018427387904)) (hv:valE 3 0 s.data.toList=0) (HX:Keep (X=⟨#[70,65,76,83,69]⟩)) (w:World) :
  Calls Tryz.prog 46 #[.agg #[.int .u8 3,.int .i64 0,.string s]] w fun e w'=>e=.returned (.agg #[.int .u8 2,.int .i64 0,.string ⟨#[]⟩])∧Below w.heap.size w w':=by
 have HVE:=keep hv
 clear hv
 have H1:=Lib.hid (((Ok.start w).alloc w.heap.size 23 [.int .u8 3,.int .i64 0,.string s] rfl).var (w.heap.size+1) 23 [.int .u8 0,.int .i64 0,.string ⟨#[]⟩] (by simp))
 go_enter Tryz.func46,Tryz.ntmps46
 go_wp2_with fail
 generalize ((w.alloc (.cells #[.int .u8 3,.int .i64 0,.string s] 23)).alloc (.cells #[.int .u8 0,.int .i64 0,.string ⟨#[]⟩] 23))=W2 at H1 ⊢
 have F3:=H1.out.sees
 simp only [sees,kBlk,kVar,cellsAt,Nat.reduceAdd] at F3
 obtain ⟨⟨⟨z0,fz0⟩,c00,c01,c02,-⟩,⟨z1,c10,c11,c12,-⟩,-⟩:=F3
 refine (cvb_f s X HUP HSZ HVE.out HX _).mono ?_
 rintro e w4 ⟨rfl,hb5⟩
 clear z0 fz0 c00 c01 c02 z1 c10 c11 c12
 have H6:=Lib.hid (H1.out.below hb5)
 clear hb5 H1
 have F7:=H6.out.sees
 simp only [sees,kBlk,kVar,cellsAt,Nat.reduceAdd] at F7
 obtain ⟨⟨⟨z0,fz0⟩,c00,c01,c02,-⟩,⟨z1,c10,c11,c12,-⟩,-⟩:=F7
 go_wp2_with fail
 have hfar:∀ x∈[kBlk (w.heap.size) 23 [.int .u8 3,.int .i64 0,.string s]],x.far (some (w.heap.size+1)):=by
  intro x hx
  rw [List.mem_singleton] at hx
  subst hx
  show some w.heap.size≠some (w.heap.size+1)
  simp
 have HE:=Lib.hid (((H6.out.set_ (i:=0) (u:=.int .u8 2) (by omega) hfar).set_ (i:=1) (u:=.int .i64 0) (by omega) hfar).set_ (i:=2) (u:=.string ⟨#[]⟩) (by omega) hfar)
 have F9:=HE.out.sees
 simp only [sees,kVar,kBlk,cellsAt,Nat.reduceAdd,List.set_cons_succ,List.set_cons_zero] at F9
 obtain ⟨⟨⟨y0,g0⟩,r0,r1,r2,-⟩,-⟩:=F9
 exact bodyPost_ret (v:=.agg #[.int .u8 2,.int .i64 0,.string ⟨#[]⟩]) (by simp [results,Tryz.results46,go_sem,r0,r1,r2]) rfl ⟨rfl,HE.out.bel⟩
theorem cvb_n (s X:ByteArray) (HUP:Keep (∀ w,Calls Tryz.prog 79 #[.string s] w fun e w'=>e=.returned (.string X)∧Below w.heap.size w w')) (HSZ:Hid (s.size≤4611686018427387904)) (hv:valE 3 0 s.data.toList=0) (HX:Keep ((X.toList == [84,82,85,69])=false∧(X.toList == [70,65,76,83,69])=false)) (w:World) :
  Calls Tryz.prog 59 #[.agg #[.int .u8 3,.int .i64 0,.string s],.func (.func 76) #[] #[]] w fun e w'=>e=.returned (.agg #[.int .u8 4,.int .i64 2,.string ⟨#[]⟩])∧Below w.heap.size w w':=by
 have HVE:=keep hv
 clear hv
 have H1:=Lib.hid (((Ok.start w).alloc w.heap.size 23 [.int .u8 3,.int .i64 0,.string s] rfl).var (w.heap.size+1) 23 [.int .u8 0,.int .i64 0,.string ⟨#[]⟩] (by simp))
 go_enter Tryz.func59,Tryz.ntmps59
 go_upto_region 1 with fail
 generalize ((w.alloc (.cells #[.int .u8 3,.int .i64 0,.string s] 23)).alloc (.cells #[.int .u8 0,.int .i64 0,.string ⟨#[]⟩] 23))=W2 at H1 ⊢
 refine wp_region_held_drew (S:=fun W=>Ok w [kVar (w.heap.size+1) 23 [.int .u8 0,.int .i64 0,.string ⟨#[]⟩],kBlk (w.heap.size) 23 [.int .u8 3,.int .i64 0,.string s]] W) (by kernel_rfl) H1.out.drew (fun hHeld => ?_)
 have H3:=Lib.hid H1.out.drew
 clear H1
 generalize W2.drew=W4 at hHeld H3 ⊢
 refine wt3 (i:=0) rfl (by assumption) ?_
 refine wt3 (i:=1) rfl (by assumption) ?_
 refine wt3 (i:=3) rfl (by assumption) ?_
 refine wt3 (i:=4) rfl (by assumption) ?_
 refine wal (i:=2) rfl (fun K hK => ?_)
 go_simp
 refine (tobool1 s _).mono ?_
 rintro e w5 ⟨r,rfl,hr,hb6⟩
 go_wp2_with fail
 have H7:=Lib.hid (H3.out.below hb6)
 clear hb6 H3
 have hlk:=look_ok (i:=3) _ _ _ _ tt_map tt_key hr (.int .u8 3) (.func (.func 78) #[.agg #[.int .u8 3,.int .i64 0,.string s]] #[]) (by simp [MapKept.IsKey]) rfl
 have HR:=keep hr
 clear hr
 refine hK.out _ _ (H7.out) (fun hHeld => ?_)
 clear hK K
 try simp only [Act.put,wp1,wp2,wp3,wp4,wp5,wp6]
 refine wal (i:=5) rfl (fun K hK => ?_)
 go_simp
 go_wp2_with fail
 clear hlk HR
 refine hK.out _ _ (H7.out) (fun hHeld => ?_)
 clear hK K
 try simp only [Act.put,wp1,wp2,wp3,wp4,wp5,wp6]
 refine wt3 (i:=6) rfl (by assumption) ?_
 refine wt3 (i:=7) rfl (by assumption) ?_
 refine wt3 (i:=8) rfl (by assumption) ?_
 refine wt3 (i:=9) rfl (by assumption) ?_
 refine wt3 (i:=10) rfl (by assumption) ?_
 refine wpAnyH_done (by kernel_rfl) ?_ _
 clear hHeld
 have F8:=H7.out.sees
 simp only [sees,kBlk,kVar,cellsAt,Nat.reduceAdd] at F8
 obtain ⟨⟨⟨z0,fz0⟩,c00,c01,c02,-⟩,⟨z1,c10,c11,c12,-⟩,-⟩:=F8
 go_wp2_with fail
 refine (val_Check 3 0 s HSZ.out _).mono ?_
 rintro e w9 ⟨rfl,hb10⟩
 rw [HVE.out]
 clear z0 fz0 c00 c01 c02 z1 c10 c11 c12
 have H11:=Lib.hid (H7.out.below hb10)
 clear hb10 H7
 have F12:=H11.out.sees
 simp only [sees,kBlk,kVar,cellsAt,Nat.reduceAdd] at F12
 obtain ⟨⟨⟨z0,fz0⟩,c00,c01,c02,-⟩,⟨z1,c10,c11,c12,-⟩,-⟩:=F12
 go_wp2_with fail
 refine (named_n s X HUP HX.out.1 HX.out.2 _).mono ?_
 rintro e w13 ⟨rfl,hb14⟩
 clear z0 fz0 c00 c01 c02 z1 c10 c11 c12
 have H15:=Lib.hid (H11.out.below hb14)
 clear hb14 H11
 have F16:=H15.out.sees
 simp only [sees,kBlk,kVar,cellsAt,Nat.reduceAdd] at F16
 obtain ⟨⟨⟨z0,fz0⟩,c00,c01,c02,-⟩,⟨z1,c10,c11,c12,-⟩,-⟩:=F16
 go_wp2_with fail
 have hfar:∀ x∈[kBlk (w.heap.size) 23 [.int .u8 3,.int .i64 0,.string s]],x.far (some (w.heap.size+1)):=by
  intro x hx
  rw [List.mem_singleton] at hx
  subst hx
  show some w.heap.size≠some (w.heap.size+1)
  simp
 have HE:=Lib.hid (((H15.out.set_ (i:=0) (u:=.int .u8 4) (by omega) hfar).set_ (i:=1) (u:=.int .i64 2) (by omega) hfar).set_ (i:=2) (u:=.string ⟨#[]⟩) (by omega) hfar)
 have F9:=HE.out.sees
 simp only [sees,kVar,kBlk,cellsAt,Nat.reduceAdd,List.set_cons_succ,List.set_cons_zero] at F9
 obtain ⟨⟨⟨y0,g0⟩,r0,r1,r2,-⟩,-⟩:=F9
 exact bodyPost_ret (v:=.agg #[.int .u8 4,.int .i64 2,.string ⟨#[]⟩]) (by simp [results,Tryz.results59,go_sem,r0,r1,r2]) rfl ⟨rfl,HE.out.bel⟩
theorem tob_n (s X:ByteArray) (HUP:Keep (∀ w,Calls Tryz.prog 79 #[.string s] w fun e w'=>e=.returned (.string X)∧Below w.heap.size w w')) (HSZ:Hid (s.size≤4611686018427387904)) (hv:valE 3 0 s.data.toList=0) (HX:Keep ((X.toList == [84,82,85,69])=false∧(X.toList == [70,65,76,83,69])=false)) (w:World) :
  Calls Tryz.prog 46 #[.agg #[.int .u8 3,.int .i64 0,.string s]] w fun e w'=>e=.returned (.agg #[.int .u8 4,.int .i64 2,.string ⟨#[]⟩])∧Below w.heap.size w w':=by
 have HVE:=keep hv
 clear hv
 have H1:=Lib.hid (((Ok.start w).alloc w.heap.size 23 [.int .u8 3,.int .i64 0,.string s] rfl).var (w.heap.size+1) 23 [.int .u8 0,.int .i64 0,.string ⟨#[]⟩] (by simp))
 go_enter Tryz.func46,Tryz.ntmps46
 go_wp2_with fail
 generalize ((w.alloc (.cells #[.int .u8 3,.int .i64 0,.string s] 23)).alloc (.cells #[.int .u8 0,.int .i64 0,.string ⟨#[]⟩] 23))=W2 at H1 ⊢
 have F3:=H1.out.sees
 simp only [sees,kBlk,kVar,cellsAt,Nat.reduceAdd] at F3
 obtain ⟨⟨⟨z0,fz0⟩,c00,c01,c02,-⟩,⟨z1,c10,c11,c12,-⟩,-⟩:=F3
 refine (cvb_n s X HUP HSZ HVE.out HX _).mono ?_
 rintro e w4 ⟨rfl,hb5⟩
 clear z0 fz0 c00 c01 c02 z1 c10 c11 c12
 have H6:=Lib.hid (H1.out.below hb5)
 clear hb5 H1
 have F7:=H6.out.sees
 simp only [sees,kBlk,kVar,cellsAt,Nat.reduceAdd] at F7
 obtain ⟨⟨⟨z0,fz0⟩,c00,c01,c02,-⟩,⟨z1,c10,c11,c12,-⟩,-⟩:=F7
 go_wp2_with fail
 have hfar:∀ x∈[kBlk (w.heap.size) 23 [.int .u8 3,.int .i64 0,.string s]],x.far (some (w.heap.size+1)):=by
  intro x hx
  rw [List.mem_singleton] at hx
  subst hx
  show some w.heap.size≠some (w.heap.size+1)
  simp
 have HE:=Lib.hid (((H6.out.set_ (i:=0) (u:=.int .u8 4) (by omega) hfar).set_ (i:=1) (u:=.int .i64 2) (by omega) hfar).set_ (i:=2) (u:=.string ⟨#[]⟩) (by omega) hfar)
 have F9:=HE.out.sees
 simp only [sees,kVar,kBlk,cellsAt,Nat.reduceAdd,List.set_cons_succ,List.set_cons_zero] at F9
 obtain ⟨⟨⟨y0,g0⟩,r0,r1,r2,-⟩,-⟩:=F9
 exact bodyPost_ret (v:=.agg #[.int .u8 4,.int .i64 2,.string ⟨#[]⟩]) (by simp [results,Tryz.results46,go_sem,r0,r1,r2]) rfl ⟨rfl,HE.out.bel⟩
theorem eq_lit {l m:List UInt8} (h:l≠m):((⟨l.toArray⟩:ByteArray).toList == m)=false:=by
 rw [ByteArray.toList_mk]
 exact beq_eq_false_iff_ne.2 h
def tobK (l:List UInt8):Int×Int:=if l.map upB=trueB then (2,1) else if l.map upB=falseB then (2,0) else (4,2)
theorem val_ToBoolT (s:ByteArray) (hs:s.size≤4611686018427387904) (hc:checkT s.data.toList=0) (w:World) :
  Calls Tryz.prog 46 #[.agg #[.int .u8 3,.int .i64 0,.string s]] w fun e w'=>e=.returned (.agg #[.int .u8 (tobK s.data.toList).1,.int .i64 (tobK s.data.toList).2,.string ⟨#[]⟩])∧Below w.heap.size w w':=by
 have hv:valE 3 0 s.data.toList=0:=valE_yes (.inr (.inr (.inr (.inl ⟨rfl,rfl,hc⟩))))
 have HUP:=keep fun w=>glyph_Upper s w hs
 by_cases h1:s.data.toList.map upB=trueB
 ·have e:tobK s.data.toList=(2,1):=if_pos h1
  rw [e]
  rw [h1] at HUP
  exact tob_t s _ HUP (Lib.hid hs) hv (keep rfl) w
 by_cases h2:s.data.toList.map upB=falseB
 ·have e:tobK s.data.toList=(2,0):=by unfold tobK; rw [if_neg h1,if_pos h2]
  rw [e]
  rw [h2] at HUP
  exact tob_f s _ HUP (Lib.hid hs) hv (keep rfl) w
 ·have e:tobK s.data.toList=(4,2):=by unfold tobK; rw [if_neg h1,if_neg h2]
  rw [e]
  exact tob_n s _ HUP (Lib.hid hs) hv (keep ⟨eq_lit h1,eq_lit h2⟩) w
