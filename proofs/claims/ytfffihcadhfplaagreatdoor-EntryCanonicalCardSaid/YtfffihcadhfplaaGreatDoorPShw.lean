/- val.ToText and val.Show at the values of a cell. -/
import Derived.Test.YtfffihcadhfplaaGreatDoorPIterV
import Derived.Test.YtfffihcadhfplaaGreatDoorPEqV
import Derived.Test.YtfffihcadhfplaaGreatDoorPDecF
import Derived.Test.YtfffihcadhfplaaGreatDoorPVal
import Derived.Laws.EntriesVeiled
namespace Go.Proofs.YtfffihcadhfplaaGreatDoor
set_option maxRecDepth 100000
set_option maxHeartbeats 4000000
open Go.RowKit
attribute [local go_sem high] eq_val
def bnd (f:Nat) (v:Value):Value:=.func (.func f) #[v] #[]
def blankV:Value:=.agg #[.int .u8 3,.int .i64 0,.string ⟨#[]⟩]
theorem tt_map:Tryz.prog.underlying 99=some (.map 5 100):=by kernel_rfl
theorem tt_key:Tryz.prog.underlying 5=some (.int .u8):=by kernel_rfl
def ttEs (v:Value):Array MapEntry:=#[{ key:=.int .u8 0,val:=bnd 61 blankV,born:=0 },{ key:=.int .u8 1,val:=bnd 62 v,born:=1 },{ key:=.int .u8 2,val:=bnd 63 v,born:=2 },{ key:=.int .u8 3,val:=bnd 61 v,born:=3 },{ key:=.int .u8 4,val:=bnd 61 v,born:=4 }]
theorem tt_0 (_v:Value) (w:World):(Instr.mapUpdate 99 (.map (some w.heap.size)) (.int .u8 0) (.func (.func 61) #[.agg #[.int .u8 3,.int .i64 0,.string ⟨#[]⟩]] #[])).run Tryz.prog (w.alloc (.map #[] 0))=.ok () (w.alloc (.map #[{ key:=.int .u8 0,val:=bnd 61 blankV,born:=0 }] 1)) :=
 ins_new _ _ _ _ tt_map tt_key _ _ _ _ (by simp [MapKept.IsKey]) rfl w
theorem tt_1 (v:Value) (w:World):(Instr.mapUpdate 99 (.map (some w.heap.size)) (.int .u8 1) (.func (.func 62) #[v] #[])).run Tryz.prog (w.alloc (.map #[{ key:=.int .u8 0,val:=bnd 61 blankV,born:=0 }] 1))=.ok () (w.alloc (.map #[{ key:=.int .u8 0,val:=bnd 61 blankV,born:=0 },{ key:=.int .u8 1,val:=bnd 62 v,born:=1 }] 2)) :=
 ins_new _ _ _ _ tt_map tt_key _ _ _ _ (by simp [MapKept.IsKey]) rfl w
theorem tt_2 (v:Value) (w:World):(Instr.mapUpdate 99 (.map (some w.heap.size)) (.int .u8 2) (.func (.func 63) #[v] #[])).run Tryz.prog (w.alloc (.map #[{ key:=.int .u8 0,val:=bnd 61 blankV,born:=0 },{ key:=.int .u8 1,val:=bnd 62 v,born:=1 }] 2))=.ok () (w.alloc (.map #[{ key:=.int .u8 0,val:=bnd 61 blankV,born:=0 },{ key:=.int .u8 1,val:=bnd 62 v,born:=1 },{ key:=.int .u8 2,val:=bnd 63 v,born:=2 }] 3)) :=
 ins_new _ _ _ _ tt_map tt_key _ _ _ _ (by simp [MapKept.IsKey]) rfl w
theorem tt_3 (v:Value) (w:World):(Instr.mapUpdate 99 (.map (some w.heap.size)) (.int .u8 3) (.func (.func 61) #[v] #[])).run Tryz.prog (w.alloc (.map #[{ key:=.int .u8 0,val:=bnd 61 blankV,born:=0 },{ key:=.int .u8 1,val:=bnd 62 v,born:=1 },{ key:=.int .u8 2,val:=bnd 63 v,born:=2 }] 3))=.ok () (w.alloc (.map #[{ key:=.int .u8 0,val:=bnd 61 blankV,born:=0 },{ key:=.int .u8 1,val:=bnd 62 v,born:=1 },{ key:=.int .u8 2,val:=bnd 63 v,born:=2 },{ key:=.int .u8 3,val:=bnd 61 v,born:=3 }] 4)) :=
 ins_new _ _ _ _ tt_map tt_key _ _ _ _ (by simp [MapKept.IsKey]) rfl w
theorem tt_4 (v:Value) (w:World):(Instr.mapUpdate 99 (.map (some w.heap.size)) (.int .u8 4) (.func (.func 61) #[v] #[])).run Tryz.prog (w.alloc (.map #[{ key:=.int .u8 0,val:=bnd 61 blankV,born:=0 },{ key:=.int .u8 1,val:=bnd 62 v,born:=1 },{ key:=.int .u8 2,val:=bnd 63 v,born:=2 },{ key:=.int .u8 3,val:=bnd 61 v,born:=3 }] 4))=.ok () (w.alloc (.map #[{ key:=.int .u8 0,val:=bnd 61 blankV,born:=0 },{ key:=.int .u8 1,val:=bnd 62 v,born:=1 },{ key:=.int .u8 2,val:=bnd 63 v,born:=2 },{ key:=.int .u8 3,val:=bnd 61 v,born:=3 },{ key:=.int .u8 4,val:=bnd 61 v,born:=4 }] 5)) :=
 ins_new _ _ _ _ tt_map tt_key _ _ _ _ (by simp [MapKept.IsKey]) rfl w
theorem totext1 (k n:Int) (s:ByteArray) (w:World) :
  Calls Tryz.prog 60 #[.agg #[.int .u8 k,.int .i64 n,.string s]] w fun e w'=>∃ r,e=.returned (.map (some r))∧w'.heap[r]?=some (.map (ttEs (.agg #[.int .u8 k,.int .i64 n,.string s])) 5)∧Below w.heap.size w w':=by
 have hmm:=@run_makeMap Tryz.prog
 have t0:=tt_0 (.agg #[.int .u8 k,.int .i64 n,.string s])
 have t1:=tt_1 (.agg #[.int .u8 k,.int .i64 n,.string s])
 have t2:=tt_2 (.agg #[.int .u8 k,.int .i64 n,.string s])
 have t3:=tt_3 (.agg #[.int .u8 k,.int .i64 n,.string s])
 have t4:=tt_4 (.agg #[.int .u8 k,.int .i64 n,.string s])
 obtain ⟨P,hP⟩:∃ P:Ending→World→Prop,(fun (e:Ending) (w':World)=>∃ r,e=.returned (.map (some r))∧w'.heap[r]?=some (.map (ttEs (.agg #[.int .u8 k,.int .i64 n,.string s])) 5)∧Below w.heap.size w w')=P:=⟨_,rfl⟩
 rw [hP]
 have HPP:=keep hP
 clear hP
 have H1:=Lib.hid (((Ok.start w).alloc w.heap.size 98 [.int .u8 k,.int .i64 n,.string s] rfl).alloc (w.heap.size+1) 98 [.int .u8 3,.int .i64 0,.string ⟨#[]⟩] (by simp))
 go_enter Tryz.func60,Tryz.ntmps60
 go_upto_region 2 with fail
 generalize ((w.alloc (.cells #[.int .u8 k,.int .i64 n,.string s] 98)).alloc (.cells #[.int .u8 3,.int .i64 0,.string ⟨#[]⟩] 98))=W2 at H1 ⊢
 have F3:=H1.out.sees
 simp only [sees,kBlk,cellsAt,Nat.reduceAdd] at F3
 obtain ⟨⟨z0,c00,c01,c02,-⟩,⟨z1,c10,c11,c12,-⟩,-⟩:=F3
 go_wp2_with fail
 first
  | go_ret
  | skip
 rw [← HPP.out]
 exact ⟨_,rfl,heap_of_alloc _ _,(H1.out.alloc_obj _).bel⟩
theorem val_same (k n:Int) (s:ByteArray) (w:World) :
  Calls Tryz.prog 61 #[.agg #[.int .u8 k,.int .i64 n,.string s]] w fun e w'=>e=.returned (.agg #[.int .u8 k,.int .i64 n,.string s])∧Below w.heap.size w w':=by
 have H1:=Lib.hid (((Ok.start w).alloc w.heap.size 98 [.int .u8 k,.int .i64 n,.string s] rfl).var (w.heap.size+1) 23 [.int .u8 k,.int .i64 n,.string s] (by simp))
 go_enter Tryz.func61,Tryz.ntmps61
 go_wp2_with fail
 generalize ((w.alloc (.cells #[.int .u8 k,.int .i64 n,.string s] 98)).alloc (.cells #[.int .u8 k,.int .i64 n,.string s] 23))=W2 at H1 ⊢
 have F3:=H1.out.sees
 simp only [sees,kBlk,kVar,cellsAt,Nat.reduceAdd] at F3
 obtain ⟨⟨⟨z0,fz0⟩,c00,c01,c02,-⟩,⟨z1,c10,c11,c12,-⟩,-⟩:=F3
 exact bodyPost_ret (v:=.agg #[.int .u8 k,.int .i64 n,.string s]) (by simp [results,Tryz.results61,go_sem,c00,c01,c02]) rfl ⟨rfl,H1.out.bel⟩
theorem val_word1 (s:ByteArray) (w:World) :
  Calls Tryz.prog 63 #[.agg #[.int .u8 2,.int .i64 1,.string s]] w fun e w'=>e=.returned (.agg #[.int .u8 3,.int .i64 0,.string ⟨#[84,82,85,69]⟩])∧Below w.heap.size w w':=by
 have H1:=Lib.hid (((Ok.start w).alloc w.heap.size 98 [.int .u8 2,.int .i64 1,.string s] rfl).var (w.heap.size+1) 23 [.int .u8 3,.int .i64 0,.string ⟨#[84,82,85,69]⟩] (by simp))
 go_enter Tryz.func63,Tryz.ntmps63
 go_wp2_with fail
 generalize ((w.alloc (.cells #[.int .u8 2,.int .i64 1,.string s] 98)).alloc (.cells #[.int .u8 3,.int .i64 0,.string ⟨#[84,82,85,69]⟩] 23))=W2 at H1 ⊢
 have F3:=H1.out.sees
 simp only [sees,kBlk,kVar,cellsAt,Nat.reduceAdd] at F3
 obtain ⟨⟨⟨z0,fz0⟩,c00,c01,c02,-⟩,⟨z1,c10,c11,c12,-⟩,-⟩:=F3
 exact bodyPost_ret (v:=.agg #[.int .u8 3,.int .i64 0,.string ⟨#[84,82,85,69]⟩]) (by simp [results,Tryz.results63,go_sem,c00,c01,c02]) rfl ⟨rfl,H1.out.bel⟩
theorem val_word0 (s:ByteArray) (w:World) :
  Calls Tryz.prog 63 #[.agg #[.int .u8 2,.int .i64 0,.string s]] w fun e w'=>e=.returned (.agg #[.int .u8 3,.int .i64 0,.string ⟨#[70,65,76,83,69]⟩])∧Below w.heap.size w w':=by
 have H1:=Lib.hid (((Ok.start w).alloc w.heap.size 98 [.int .u8 2,.int .i64 0,.string s] rfl).var (w.heap.size+1) 23 [.int .u8 3,.int .i64 0,.string ⟨#[70,65,76,83,69]⟩] (by simp))
 go_enter Tryz.func63,Tryz.ntmps63
 go_wp2_with fail
 generalize ((w.alloc (.cells #[.int .u8 2,.int .i64 0,.string s] 98)).alloc (.cells #[.int .u8 3,.int .i64 0,.string ⟨#[70,65,76,83,69]⟩] 23))=W2 at H1 ⊢
 have F3:=H1.out.sees
 simp only [sees,kBlk,kVar,cellsAt,Nat.reduceAdd] at F3
 obtain ⟨⟨⟨z0,fz0⟩,c00,c01,c02,-⟩,⟨z1,c10,c11,c12,-⟩,-⟩:=F3
 exact bodyPost_ret (v:=.agg #[.int .u8 3,.int .i64 0,.string ⟨#[70,65,76,83,69]⟩]) (by simp [results,Tryz.results63,go_sem,c00,c01,c02]) rfl ⟨rfl,H1.out.bel⟩
theorem val_digits (n:Int) (s:ByteArray) (h1 : -9223372036854775808≤n) (h2:n≤9223372036854775807) (w:World) :
  Calls Tryz.prog 62 #[.agg #[.int .u8 1,.int .i64 n,.string s]] w fun e w'=>e=.returned (.agg #[.int .u8 3,.int .i64 0,.string ⟨(decS n).toArray⟩])∧Below w.heap.size w w':=by
 have H1:=Lib.hid (((Ok.start w).alloc w.heap.size 98 [.int .u8 1,.int .i64 n,.string s] rfl).var (w.heap.size+1) 23 [.int .u8 0,.int .i64 0,.string ⟨#[]⟩] (by simp))
 go_enter Tryz.func62,Tryz.ntmps62
 go_wp2_with fail
 generalize ((w.alloc (.cells #[.int .u8 1,.int .i64 n,.string s] 98)).alloc (.cells #[.int .u8 0,.int .i64 0,.string ⟨#[]⟩] 23))=W2 at H1 ⊢
 have F3:=H1.out.sees
 simp only [sees,kBlk,kVar,cellsAt,Nat.reduceAdd] at F3
 obtain ⟨⟨⟨z0,fz0⟩,c00,c01,c02,-⟩,⟨z1,c10,c11,c12,-⟩,-⟩:=F3
 refine (dec_Format n _ h1 h2).mono ?_
 rintro e w4 ⟨rfl,hb5⟩
 clear z0 fz0 c00 c01 c02 z1 c10 c11 c12
 have H6:=Lib.hid (H1.out.below hb5)
 clear hb5 H1
 have F7:=H6.out.sees
 simp only [sees,kBlk,kVar,cellsAt,Nat.reduceAdd] at F7
 obtain ⟨⟨⟨z0,fz0⟩,c00,c01,c02,-⟩,⟨z1,c10,c11,c12,-⟩,-⟩:=F7
 go_wp2_with fail
 have hfar:∀ x∈[kBlk (w.heap.size) 98 [.int .u8 1,.int .i64 n,.string s]],x.far (some (w.heap.size+1)):=by
  intro x hx
  rw [List.mem_singleton] at hx
  subst hx
  show some w.heap.size≠some (w.heap.size+1)
  simp
 have HE:=Lib.hid (((H6.out.set_ (i:=0) (u:=.int .u8 3) (by omega) hfar).set_ (i:=1) (u:=.int .i64 0) (by omega) hfar).set_ (i:=2) (u:=.string ⟨(decS n).toArray⟩) (by omega) hfar)
 have F9:=HE.out.sees
 simp only [sees,kVar,kBlk,cellsAt,Nat.reduceAdd,List.set_cons_succ,List.set_cons_zero] at F9
 obtain ⟨⟨⟨y0,g0⟩,r0,r1,r2,-⟩,-⟩:=F9
 exact bodyPost_ret (v:=.agg #[.int .u8 3,.int .i64 0,.string ⟨(decS n).toArray⟩]) (by simp [results,Tryz.results62,go_sem,r0,r1,r2]) rfl ⟨rfl,HE.out.bel⟩
theorem val_convert (dn fn:Nat) (Es:Array MapEntry) (k:Nat) (n:Int) (s:ByteArray) (bv:Value) (r0 r1:Int) (r2:ByteArray) (HD:Keep (∀ w,Calls Tryz.prog dn #[.agg #[.int .u8 (k:Nat),.int .i64 n,.string s]] w fun e w'=>∃ r,e=.returned (.map (some r))∧w'.heap[r]?=some (.map Es 5)∧Below w.heap.size w w'))
  (HL:Keep (MapKept.IsKey (.int .u8) (.int .u8 (k:Nat))∧∃ i,Instr.findNow (.int .u8) (.int .u8 (k:Nat)) Es.toList 0=some (some (i,.func (.func fn) #[bv] #[]))))
  (HF:Keep (∀ w,Calls Tryz.prog fn #[bv] w fun e w'=>e=.returned (.agg #[.int .u8 r0,.int .i64 r1,.string r2])∧Below w.heap.size w w')) (hegdn:∀ args w,(callFunc dn args).run Tryz.prog w=.ok (.enter dn args) w) (hegfn:∀ args w,(callFunc fn args).run Tryz.prog w=.ok (.enter fn args) w) (HSZ:Hid (s.size≤4611686018427387904)) (hv:valE k n s.data.toList=0) (w:World) :
  Calls Tryz.prog 59 #[.agg #[.int .u8 (k:Nat),.int .i64 n,.string s],.func (.func dn) #[] #[]] w fun e w'=>e=.returned (.agg #[.int .u8 r0,.int .i64 r1,.string r2])∧Below w.heap.size w w':=by
 have HVE:=keep hv
 clear hv
 have H1:=Lib.hid (((Ok.start w).alloc w.heap.size 23 [.int .u8 (k:Nat),.int .i64 n,.string s] rfl).var (w.heap.size+1) 23 [.int .u8 0,.int .i64 0,.string ⟨#[]⟩] (by simp))
 go_enter Tryz.func59,Tryz.ntmps59
 go_upto_region 1 with fail
 generalize ((w.alloc (.cells #[.int .u8 (k:Nat),.int .i64 n,.string s] 23)).alloc (.cells #[.int .u8 0,.int .i64 0,.string ⟨#[]⟩] 23))=W2 at H1 ⊢
 refine wp_region_held_drew (S:=fun W=>Ok w [kVar (w.heap.size+1) 23 [.int .u8 0,.int .i64 0,.string ⟨#[]⟩],kBlk (w.heap.size) 23 [.int .u8 (k:Nat),.int .i64 n,.string s]] W) (by kernel_rfl) H1.out.drew (fun hHeld => ?_)
 have H3:=Lib.hid H1.out.drew
 clear H1
 generalize W2.drew=W4 at hHeld H3 ⊢
 refine wt3 (i:=0) rfl (by assumption) ?_
 refine wt3 (i:=1) rfl (by assumption) ?_
 refine wt3 (i:=3) rfl (by assumption) ?_
 refine wt3 (i:=4) rfl (by assumption) ?_
 refine wal (i:=2) rfl (fun K hK => ?_)
 go_simp
 refine (HD.out _).mono ?_
 rintro e w5 ⟨r,rfl,hr,hb6⟩
 go_wp2_with fail
 have H7:=Lib.hid (H3.out.below hb6)
 clear hb6 H3
 obtain ⟨hkey,i,hfind⟩:=HL.out
 have hlk:=look_ok _ _ _ _ tt_map tt_key hr _ _ hkey hfind
 clear hkey hfind
 have HR:=keep hr
 clear hr
 refine hK.out _ _ (H7.out) (fun hHeld => ?_)
 clear hK K
 try simp only [Act.put,wp1,wp2,wp3,wp4,wp5,wp6]
 refine wal (i:=5) rfl (fun K hK => ?_)
 go_simp
 go_wp2_with fail
 clear hlk HR
 refine hK.out _ _ (H7.out) (fun hHeld => ?_)
 clear hK K
 try simp only [Act.put,wp1,wp2,wp3,wp4,wp5,wp6]
 refine wt3 (i:=6) rfl (by assumption) ?_
 refine wt3 (i:=7) rfl (by assumption) ?_
 refine wt3 (i:=8) rfl (by assumption) ?_
 refine wt3 (i:=9) rfl (by assumption) ?_
 refine wt3 (i:=10) rfl (by assumption) ?_
 refine wpAnyH_done (by kernel_rfl) ?_ _
 clear hHeld
 have F8:=H7.out.sees
 simp only [sees,kBlk,kVar,cellsAt,Nat.reduceAdd] at F8
 obtain ⟨⟨⟨z0,fz0⟩,c00,c01,c02,-⟩,⟨z1,c10,c11,c12,-⟩,-⟩:=F8
 go_wp2_with fail
 refine (val_Check k n s HSZ.out _).mono ?_
 rintro e w9 ⟨rfl,hb10⟩
 rw [HVE.out]
 clear z0 fz0 c00 c01 c02 z1 c10 c11 c12
 have H11:=Lib.hid (H7.out.below hb10)
 clear hb10 H7
 have F12:=H11.out.sees
 simp only [sees,kBlk,kVar,cellsAt,Nat.reduceAdd] at F12
 obtain ⟨⟨⟨z0,fz0⟩,c00,c01,c02,-⟩,⟨z1,c10,c11,c12,-⟩,-⟩:=F12
 go_wp2_with fail
 refine (HF.out _).mono ?_
 rintro e w13 ⟨rfl,hb14⟩
 clear z0 fz0 c00 c01 c02 z1 c10 c11 c12
 have H15:=Lib.hid (H11.out.below hb14)
 clear hb14 H11
 have F16:=H15.out.sees
 simp only [sees,kBlk,kVar,cellsAt,Nat.reduceAdd] at F16
 obtain ⟨⟨⟨z0,fz0⟩,c00,c01,c02,-⟩,⟨z1,c10,c11,c12,-⟩,-⟩:=F16
 go_wp2_with fail
 have hfar:∀ x∈[kBlk (w.heap.size) 23 [.int .u8 (k:Nat),.int .i64 n,.string s]],x.far (some (w.heap.size+1)):=by
  intro x hx
  rw [List.mem_singleton] at hx
  subst hx
  show some w.heap.size≠some (w.heap.size+1)
  simp
 have HE:=Lib.hid (((H15.out.set_ (i:=0) (u:=.int .u8 r0) (by omega) hfar).set_ (i:=1) (u:=.int .i64 r1) (by omega) hfar).set_ (i:=2) (u:=.string r2) (by omega) hfar)
 have F9:=HE.out.sees
 simp only [sees,kVar,kBlk,cellsAt,Nat.reduceAdd,List.set_cons_succ,List.set_cons_zero] at F9
 obtain ⟨⟨⟨y0,g0⟩,q0,q1,q2,-⟩,-⟩:=F9
 exact bodyPost_ret (v:=.agg #[.int .u8 r0,.int .i64 r1,.string r2]) (by simp [results,Tryz.results59,go_sem,q0,q1,q2]) rfl ⟨rfl,HE.out.bel⟩
theorem totextG (k:Nat) (n:Int) (s R:ByteArray) (HC:Keep (∀ w,Calls Tryz.prog 59 #[.agg #[.int .u8 (k:Nat),.int .i64 n,.string s],.func (.func 60) #[] #[]] w fun e w'=>e=.returned (.agg #[.int .u8 3,.int .i64 0,.string R])∧Below w.heap.size w w')) (w:World) :
  Calls Tryz.prog 30 #[.agg #[.int .u8 (k:Nat),.int .i64 n,.string s]] w fun e w'=>e=.returned (.agg #[.int .u8 3,.int .i64 0,.string R])∧Below w.heap.size w w':=by
 have H1:=Lib.hid (((Ok.start w).alloc w.heap.size 23 [.int .u8 (k:Nat),.int .i64 n,.string s] rfl).var (w.heap.size+1) 23 [.int .u8 0,.int .i64 0,.string ⟨#[]⟩] (by simp))
 go_enter Tryz.func30,Tryz.ntmps30
 go_wp2_with fail
 generalize ((w.alloc (.cells #[.int .u8 (k:Nat),.int .i64 n,.string s] 23)).alloc (.cells #[.int .u8 0,.int .i64 0,.string ⟨#[]⟩] 23))=W2 at H1 ⊢
 have F3:=H1.out.sees
 simp only [sees,kBlk,kVar,cellsAt,Nat.reduceAdd] at F3
 obtain ⟨⟨⟨z0,fz0⟩,c00,c01,c02,-⟩,⟨z1,c10,c11,c12,-⟩,-⟩:=F3
 refine (HC.out _).mono ?_
 rintro e w4 ⟨rfl,hb5⟩
 clear z0 fz0 c00 c01 c02 z1 c10 c11 c12
 have H6:=Lib.hid (H1.out.below hb5)
 clear hb5 H1
 have F7:=H6.out.sees
 simp only [sees,kBlk,kVar,cellsAt,Nat.reduceAdd] at F7
 obtain ⟨⟨⟨z0,fz0⟩,c00,c01,c02,-⟩,⟨z1,c10,c11,c12,-⟩,-⟩:=F7
 go_wp2_with fail
 have hfar:∀ x∈[kBlk (w.heap.size) 23 [.int .u8 (k:Nat),.int .i64 n,.string s]],x.far (some (w.heap.size+1)):=by
  intro x hx
  rw [List.mem_singleton] at hx
  subst hx
  show some w.heap.size≠some (w.heap.size+1)
  simp
 have HE:=Lib.hid (((H6.out.set_ (i:=0) (u:=.int .u8 3) (by omega) hfar).set_ (i:=1) (u:=.int .i64 0) (by omega) hfar).set_ (i:=2) (u:=.string R) (by omega) hfar)
 have F9:=HE.out.sees
 simp only [sees,kVar,kBlk,cellsAt,Nat.reduceAdd,List.set_cons_succ,List.set_cons_zero] at F9
 obtain ⟨⟨⟨y0,g0⟩,q0,q1,q2,-⟩,-⟩:=F9
 exact bodyPost_ret (v:=.agg #[.int .u8 3,.int .i64 0,.string R]) (by simp [results,Tryz.results30,go_sem,q0,q1,q2]) rfl ⟨rfl,HE.out.bel⟩
theorem field_text (a b:Value) (x:ByteArray) (w:World):(Instr.field 23 (.agg #[a,b,.string x]) 2).run Tryz.prog w=.ok (.string x) w:=by kernel_rfl
theorem showG (k:Nat) (n:Int) (s R:ByteArray) (h4:((k:Int) == 4)=false) (HC:Keep (∀ w,Calls Tryz.prog 59 #[.agg #[.int .u8 (k:Nat),.int .i64 n,.string s],.func (.func 60) #[] #[]] w fun e w'=>e=.returned (.agg #[.int .u8 3,.int .i64 0,.string R])∧Below w.heap.size w w')) (HSZ:Hid (s.size≤4611686018427387904)) (hv:valE k n s.data.toList=0) (w:World) :
  Calls Tryz.prog 15 #[.agg #[.int .u8 (k:Nat),.int .i64 n,.string s]] w fun e w'=>e=.returned (.string R)∧Below w.heap.size w w':=by
 have HVE:=keep hv
 clear hv
 have hq:eq3 (k:Nat) n 4 7 s.toList []=false:=by
  cases h:eq3 (k:Nat) n 4 7 s.toList [] with
  | false=>rfl
  | true=>rw [((eq3_iff ..).1 h).1] at h4; exact absurd h4 (by decide)
 have hft:=field_text (.int .u8 3) (.int .i64 0)
 have H1:=Lib.hid ((Ok.start w).alloc w.heap.size 23 [.int .u8 (k:Nat),.int .i64 n,.string s] rfl)
 go_enter Tryz.func15,Tryz.ntmps15
 go_wp2_with fail
 generalize (w.alloc (.cells #[.int .u8 (k:Nat),.int .i64 n,.string s] 23))=W2 at H1 ⊢
 refine wp_region_held_drew (S:=fun W=>Ok w [kBlk (w.heap.size) 23 [.int .u8 (k:Nat),.int .i64 n,.string s]] W) (by kernel_rfl) H1.out.drew (fun hHeld => ?_)
 refine wt3 (i:=0) rfl (by assumption) ?_
 refine wal (i:=1) rfl (fun K hK => ?_)
 go_simp
 refine (fail_code 7 (by decide) (by decide) _).mono ?_
 rintro e w4 ⟨rfl,hb5⟩
 go_wp2_with fail
 refine hK.out _ _ (hHeld.below hb5) (fun hHeld => ?_)
 clear hK K
 try simp only [Act.put,wp1,wp2,wp3,wp4,wp5,wp6]
 refine wt3 (i:=2) rfl (by assumption) ?_
 refine wt3 (i:=3) rfl (by assumption) ?_
 refine wt3 (i:=4) rfl (by assumption) ?_
 refine wt3 (i:=5) rfl (by assumption) ?_
 refine wt3 (i:=6) rfl (by assumption) ?_
 refine wt3 (i:=7) rfl (by assumption) ?_
 refine wsk (i:=8) rfl (by assumption) ?_
 refine wsk (i:=9) rfl (by assumption) ?_
 refine wsk (i:=10) rfl (by assumption) ?_
 refine wt3 (i:=11) rfl (by assumption) ?_
 refine wt3 (i:=12) rfl (by assumption) ?_
 refine wpAnyH_done (by kernel_rfl) ?_ _
 clear H1
 have H6:=Lib.hid hHeld
 clear hHeld
 have F7:=H6.out.sees
 simp only [sees,kBlk,cellsAt,Nat.reduceAdd] at F7
 obtain ⟨⟨z0,c00,c01,c02,-⟩,-⟩:=F7
 go_wp2_with fail
 refine (val_Check k n s HSZ.out _).mono ?_
 rintro e w8 ⟨rfl,hb9⟩
 rw [HVE.out]
 clear z0 c00 c01 c02
 have H10:=Lib.hid (H6.out.below hb9)
 clear hb9 H6
 have F11:=H10.out.sees
 simp only [sees,kBlk,cellsAt,Nat.reduceAdd] at F11
 obtain ⟨⟨z0,c00,c01,c02,-⟩,-⟩:=F11
 go_wp2_with fail
 refine (totextG k n s R HC _).mono ?_
 rintro e w12 ⟨rfl,hb13⟩
 clear z0 c00 c01 c02
 have H14:=Lib.hid (H10.out.below hb13)
 clear hb13 H10
 have F15:=H14.out.sees
 simp only [sees,kBlk,cellsAt,Nat.reduceAdd] at F15
 obtain ⟨⟨z0,c00,c01,c02,-⟩,-⟩:=F15
 go_wp2_with fail
 go_ret
 exact ⟨rfl,H14.out.bel⟩
theorem show_0  (hs:(⟨#[]⟩:ByteArray).size≤4611686018427387904) (hv:valE 0 0 (⟨#[]⟩:ByteArray).data.toList=0) (w:World) :
  Calls Tryz.prog 15 #[.agg #[.int .u8 0,.int .i64 0,.string ⟨#[]⟩]] w fun e w'=>e=.returned (.string ⟨#[]⟩)∧Below w.heap.size w w' :=
 showG 0 0 ⟨#[]⟩ ⟨#[]⟩ (by decide) (keep fun w=>val_convert 60 61 (ttEs (.agg #[.int .u8 0,.int .i64 0,.string ⟨#[]⟩])) 0 0 ⟨#[]⟩ (.agg #[.int .u8 3,.int .i64 0,.string ⟨#[]⟩]) 3 0 ⟨#[]⟩ (keep fun w=>totext1 _ _ _ w) (keep ⟨by simp [MapKept.IsKey],0,rfl⟩) (keep fun w=>val_same 3 0 ⟨#[]⟩ w) (fun _ _=>by kernel_rfl) (fun _ _=>by kernel_rfl) (Lib.hid hs) hv w) (Lib.hid hs) hv w
theorem show_1 (n:Int) (h1 : -9223372036854775808≤n) (h2:n≤9223372036854775807) (hs:(⟨#[]⟩:ByteArray).size≤4611686018427387904) (hv:valE 1 n (⟨#[]⟩:ByteArray).data.toList=0) (w:World) :
  Calls Tryz.prog 15 #[.agg #[.int .u8 1,.int .i64 n,.string ⟨#[]⟩]] w fun e w'=>e=.returned (.string ⟨(decS n).toArray⟩)∧Below w.heap.size w w' :=
 showG 1 n ⟨#[]⟩ ⟨(decS n).toArray⟩ (by decide) (keep fun w=>val_convert 60 62 (ttEs (.agg #[.int .u8 1,.int .i64 n,.string ⟨#[]⟩])) 1 n ⟨#[]⟩ (.agg #[.int .u8 1,.int .i64 n,.string ⟨#[]⟩]) 3 0 ⟨(decS n).toArray⟩ (keep fun w=>totext1 _ _ _ w) (keep ⟨by simp [MapKept.IsKey],1,rfl⟩) (keep fun w=>val_digits n ⟨#[]⟩ h1 h2 w) (fun _ _=>by kernel_rfl) (fun _ _=>by kernel_rfl) (Lib.hid hs) hv w) (Lib.hid hs) hv w
theorem show_20  (hs:(⟨#[]⟩:ByteArray).size≤4611686018427387904) (hv:valE 2 0 (⟨#[]⟩:ByteArray).data.toList=0) (w:World) :
  Calls Tryz.prog 15 #[.agg #[.int .u8 2,.int .i64 0,.string ⟨#[]⟩]] w fun e w'=>e=.returned (.string ⟨#[70,65,76,83,69]⟩)∧Below w.heap.size w w' :=
 showG 2 0 ⟨#[]⟩ ⟨#[70,65,76,83,69]⟩ (by decide) (keep fun w=>val_convert 60 63 (ttEs (.agg #[.int .u8 2,.int .i64 0,.string ⟨#[]⟩])) 2 0 ⟨#[]⟩ (.agg #[.int .u8 2,.int .i64 0,.string ⟨#[]⟩]) 3 0 ⟨#[70,65,76,83,69]⟩ (keep fun w=>totext1 _ _ _ w) (keep ⟨by simp [MapKept.IsKey],2,rfl⟩) (keep fun w=>val_word0 ⟨#[]⟩ w) (fun _ _=>by kernel_rfl) (fun _ _=>by kernel_rfl) (Lib.hid hs) hv w) (Lib.hid hs) hv w
theorem show_21  (hs:(⟨#[]⟩:ByteArray).size≤4611686018427387904) (hv:valE 2 1 (⟨#[]⟩:ByteArray).data.toList=0) (w:World) :
  Calls Tryz.prog 15 #[.agg #[.int .u8 2,.int .i64 1,.string ⟨#[]⟩]] w fun e w'=>e=.returned (.string ⟨#[84,82,85,69]⟩)∧Below w.heap.size w w' :=
 showG 2 1 ⟨#[]⟩ ⟨#[84,82,85,69]⟩ (by decide) (keep fun w=>val_convert 60 63 (ttEs (.agg #[.int .u8 2,.int .i64 1,.string ⟨#[]⟩])) 2 1 ⟨#[]⟩ (.agg #[.int .u8 2,.int .i64 1,.string ⟨#[]⟩]) 3 0 ⟨#[84,82,85,69]⟩ (keep fun w=>totext1 _ _ _ w) (keep ⟨by simp [MapKept.IsKey],2,rfl⟩) (keep fun w=>val_word1 ⟨#[]⟩ w) (fun _ _=>by kernel_rfl) (fun _ _=>by kernel_rfl) (Lib.hid hs) hv w) (Lib.hid hs) hv w
theorem show_3 (s:ByteArray) (hs:(s:ByteArray).size≤4611686018427387904) (hv:valE 3 0 (s:ByteArray).data.toList=0) (w:World) :
  Calls Tryz.prog 15 #[.agg #[.int .u8 3,.int .i64 0,.string s]] w fun e w'=>e=.returned (.string s)∧Below w.heap.size w w' :=
 showG 3 0 s s (by decide) (keep fun w=>val_convert 60 61 (ttEs (.agg #[.int .u8 3,.int .i64 0,.string s])) 3 0 s (.agg #[.int .u8 3,.int .i64 0,.string s]) 3 0 s (keep fun w=>totext1 _ _ _ w) (keep ⟨by simp [MapKept.IsKey],3,rfl⟩) (keep fun w=>val_same 3 0 s w) (fun _ _=>by kernel_rfl) (fun _ _=>by kernel_rfl) (Lib.hid hs) hv w) (Lib.hid hs) hv w
def showV (k:Nat) (n:Int) (t:List UInt8):List UInt8 :=
 if k=1 then decS n else if k=2 then (if n=1 then trueB else falseB) else if k=3 then t else if k=4 then allNames[n.toNat]?.getD [] else []
theorem val_Show (k:Nat) (n:Int) (s:ByteArray) (hs:s.size≤4611686018427387904) (h1 : -9223372036854775808≤n) (h2:n≤9223372036854775807) (w:World) (hw:Words w) (hc:cellV k n s.data.toList) :
  Calls Tryz.prog 15 #[.agg #[.int .u8 (k:Nat),.int .i64 n,.string s]] w fun e w'=>e=.returned (.string ⟨(showV k n s.data.toList).toArray⟩)∧Below w.heap.size w w':=by
 have hv:=valE_yes hc
 have nil:s.data.toList=[]→s=⟨#[]⟩:=by
  intro e
  apply Classical.byContradiction
  intro h
  exact (str_nil h).1 e
 rcases hc with ⟨rfl,rfl,h⟩ | ⟨rfl,h,h0⟩ | ⟨rfl,h,h0⟩ | ⟨rfl,rfl,h⟩ | ⟨rfl,h,g1,g2⟩
 ·obtain rfl:=nil h
  exact show_0 (by decide) hv w
 ·obtain rfl:=nil h
  exact show_1 n h1 h2 (by decide) hv w
 ·obtain rfl:=nil h
  rcases h0 with rfl | rfl
  ·exact show_20 (by decide) hv w
  ·exact show_21 (by decide) hv w
 ·have:showV 3 0 s.data.toList=s.data.toList:=rfl
  rw [this]
  exact show_3 s hs hv w
 ·obtain rfl:=nil h
  exact show_err n g1 (by omega) w hw
