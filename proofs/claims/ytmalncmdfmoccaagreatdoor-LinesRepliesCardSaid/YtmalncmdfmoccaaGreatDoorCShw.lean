/- val.ToText and val.Show at the values of a cell. -/
import Derived.Test.YtmalncmdfmoccaaGreatDoorCTz
import Derived.Test.YtmalncmdfmoccaaGreatDoorCEqV
import Derived.Test.YtmalncmdfmoccaaGreatDoorCDecF
import Derived.Test.YtmalncmdfmoccaaGreatDoorCVal
import Derived.Laws.EntriesVeiled
namespace Go.Proofs.YtmalncmdfmoccaaGreatDoor
open Go.RowKit
attribute [local go_sem high] eq_val
def bnd (f : Nat) (v : Value) : Value:=.func (.func f) #[v] #[]
def blankV : Value:=.agg #[.int .u8 3,.int .i64 0,.string ⟨#[]⟩]
theorem tt_map : Tryz.prog.underlying 184 = some (.map 5 185):=by kernel_rfl
theorem tt_key : Tryz.prog.underlying 5 = some (.int .u8):=by kernel_rfl
def ttEs (v : Value) : Array MapEntry:=#[{ key:=.int .u8 0,val:=bnd 143 blankV,born:=0 },{ key:=.int .u8 1,val:=bnd 144 v,born:=1 },{ key:=.int .u8 2,val:=bnd 145 v,born:=2 },{ key:=.int .u8 3,val:=bnd 143 v,born:=3 },{ key:=.int .u8 4,val:=bnd 143 v,born:=4 }]
theorem tt_0 (_v : Value) (w : World) : (Instr.mapUpdate 184 (.map (some w.heap.size)) (.int .u8 0) (.func (.func 143) #[.agg #[.int .u8 3,.int .i64 0,.string ⟨#[]⟩]] #[])).run Tryz.prog (w.alloc (.map #[] 0)) = .ok () (w.alloc (.map #[{ key:=.int .u8 0,val:=bnd 143 blankV,born:=0 }] 1)) :=
  ins_new _ _ _ _ tt_map tt_key _ _ _ _ (by simp [MapKept.IsKey]) rfl w
theorem tt_1 (v : Value) (w : World) : (Instr.mapUpdate 184 (.map (some w.heap.size)) (.int .u8 1) (.func (.func 144) #[v] #[])).run Tryz.prog (w.alloc (.map #[{ key:=.int .u8 0,val:=bnd 143 blankV,born:=0 }] 1)) = .ok () (w.alloc (.map #[{ key:=.int .u8 0,val:=bnd 143 blankV,born:=0 },{ key:=.int .u8 1,val:=bnd 144 v,born:=1 }] 2)) :=
  ins_new _ _ _ _ tt_map tt_key _ _ _ _ (by simp [MapKept.IsKey]) rfl w
theorem tt_2 (v : Value) (w : World) : (Instr.mapUpdate 184 (.map (some w.heap.size)) (.int .u8 2) (.func (.func 145) #[v] #[])).run Tryz.prog (w.alloc (.map #[{ key:=.int .u8 0,val:=bnd 143 blankV,born:=0 },{ key:=.int .u8 1,val:=bnd 144 v,born:=1 }] 2)) = .ok () (w.alloc (.map #[{ key:=.int .u8 0,val:=bnd 143 blankV,born:=0 },{ key:=.int .u8 1,val:=bnd 144 v,born:=1 },{ key:=.int .u8 2,val:=bnd 145 v,born:=2 }] 3)) :=
  ins_new _ _ _ _ tt_map tt_key _ _ _ _ (by simp [MapKept.IsKey]) rfl w
theorem tt_3 (v : Value) (w : World) : (Instr.mapUpdate 184 (.map (some w.heap.size)) (.int .u8 3) (.func (.func 143) #[v] #[])).run Tryz.prog (w.alloc (.map #[{ key:=.int .u8 0,val:=bnd 143 blankV,born:=0 },{ key:=.int .u8 1,val:=bnd 144 v,born:=1 },{ key:=.int .u8 2,val:=bnd 145 v,born:=2 }] 3)) = .ok () (w.alloc (.map #[{ key:=.int .u8 0,val:=bnd 143 blankV,born:=0 },{ key:=.int .u8 1,val:=bnd 144 v,born:=1 },{ key:=.int .u8 2,val:=bnd 145 v,born:=2 },{ key:=.int .u8 3,val:=bnd 143 v,born:=3 }] 4)) :=
  ins_new _ _ _ _ tt_map tt_key _ _ _ _ (by simp [MapKept.IsKey]) rfl w
theorem tt_4 (v : Value) (w : World) : (Instr.mapUpdate 184 (.map (some w.heap.size)) (.int .u8 4) (.func (.func 143) #[v] #[])).run Tryz.prog (w.alloc (.map #[{ key:=.int .u8 0,val:=bnd 143 blankV,born:=0 },{ key:=.int .u8 1,val:=bnd 144 v,born:=1 },{ key:=.int .u8 2,val:=bnd 145 v,born:=2 },{ key:=.int .u8 3,val:=bnd 143 v,born:=3 }] 4)) = .ok () (w.alloc (.map #[{ key:=.int .u8 0,val:=bnd 143 blankV,born:=0 },{ key:=.int .u8 1,val:=bnd 144 v,born:=1 },{ key:=.int .u8 2,val:=bnd 145 v,born:=2 },{ key:=.int .u8 3,val:=bnd 143 v,born:=3 },{ key:=.int .u8 4,val:=bnd 143 v,born:=4 }] 5)) :=
  ins_new _ _ _ _ tt_map tt_key _ _ _ _ (by simp [MapKept.IsKey]) rfl w
set_option maxRecDepth 100000 in
set_option maxHeartbeats 4000000 in
theorem totext1 (k n : Int) (s : ByteArray) (w : World) :
    Calls Tryz.prog 142 #[.agg #[.int .u8 k,.int .i64 n,.string s]] w fun e w' => ∃ r,e = .returned (.map (some r)) ∧ w'.heap[r]? = some (.map (ttEs (.agg #[.int .u8 k,.int .i64 n,.string s])) 5) ∧ Below w.heap.size w w':=by
  have hmm:=@run_makeMap Tryz.prog
  have t0:=tt_0 (.agg #[.int .u8 k,.int .i64 n,.string s])
  have t1:=tt_1 (.agg #[.int .u8 k,.int .i64 n,.string s])
  have t2:=tt_2 (.agg #[.int .u8 k,.int .i64 n,.string s])
  have t3:=tt_3 (.agg #[.int .u8 k,.int .i64 n,.string s])
  have t4:=tt_4 (.agg #[.int .u8 k,.int .i64 n,.string s])
  obtain ⟨P,hP⟩ : ∃ P : Ending → World → Prop,(fun (e : Ending) (w' : World) => ∃ r,e = .returned (.map (some r)) ∧ w'.heap[r]? = some (.map (ttEs (.agg #[.int .u8 k,.int .i64 n,.string s])) 5) ∧ Below w.heap.size w w') = P:=⟨_,rfl⟩
  rw [hP]
  have HPP:=keep hP
  clear hP
  have H1:=Lib.hid (((Ok.start w).alloc w.heap.size 183 [.int .u8 k,.int .i64 n,.string s] rfl).alloc (w.heap.size + 1) 183 [.int .u8 3,.int .i64 0,.string ⟨#[]⟩] (by simp))
  go_enter Tryz.func142,Tryz.ntmps142
  go_upto_region 2 with fail
  generalize ((w.alloc (.cells #[.int .u8 k,.int .i64 n,.string s] 183)).alloc (.cells #[.int .u8 3,.int .i64 0,.string ⟨#[]⟩] 183)) = W2 at H1 ⊢
  have F3:=H1.out.sees
  simp only [sees,kBlk,cellsAt,Nat.reduceAdd] at F3
  obtain ⟨⟨z0,c0_0,c0_1,c0_2,-⟩,⟨z1,c1_0,c1_1,c1_2,-⟩,-⟩:=F3
  go_wp2_with fail
  first
    | go_ret
    | skip
  rw [← HPP.out]
  exact ⟨_,rfl,heap_of_alloc _ _,(H1.out.alloc_obj _).bel⟩
set_option maxRecDepth 100000 in
set_option maxHeartbeats 4000000 in
theorem val_same (k n : Int) (s : ByteArray) (w : World) :
    Calls Tryz.prog 143 #[.agg #[.int .u8 k,.int .i64 n,.string s]] w fun e w' => e = .returned (.agg #[.int .u8 k,.int .i64 n,.string s]) ∧ Below w.heap.size w w':=by
  have H1:=Lib.hid (((Ok.start w).alloc w.heap.size 183 [.int .u8 k,.int .i64 n,.string s] rfl).var (w.heap.size + 1) 59 [.int .u8 k,.int .i64 n,.string s] (by simp))
  go_enter Tryz.func143,Tryz.ntmps143
  go_wp2_with fail
  generalize ((w.alloc (.cells #[.int .u8 k,.int .i64 n,.string s] 183)).alloc (.cells #[.int .u8 k,.int .i64 n,.string s] 59)) = W2 at H1 ⊢
  have F3:=H1.out.sees
  simp only [sees,kBlk,kVar,cellsAt,Nat.reduceAdd] at F3
  obtain ⟨⟨⟨z0,fz0⟩,c0_0,c0_1,c0_2,-⟩,⟨z1,c1_0,c1_1,c1_2,-⟩,-⟩:=F3
  exact bodyPost_ret (v:=.agg #[.int .u8 k,.int .i64 n,.string s]) (by simp [results,Tryz.results143,go_sem,c0_0,c0_1,c0_2]) rfl ⟨rfl,H1.out.bel⟩
set_option maxRecDepth 100000 in
set_option maxHeartbeats 4000000 in
theorem val_word1 (s : ByteArray) (w : World) :
    Calls Tryz.prog 145 #[.agg #[.int .u8 2,.int .i64 1,.string s]] w fun e w' => e = .returned (.agg #[.int .u8 3,.int .i64 0,.string ⟨#[84,82,85,69]⟩]) ∧ Below w.heap.size w w':=by
  have H1:=Lib.hid (((Ok.start w).alloc w.heap.size 183 [.int .u8 2,.int .i64 1,.string s] rfl).var (w.heap.size + 1) 59 [.int .u8 3,.int .i64 0,.string ⟨#[84,82,85,69]⟩] (by simp))
  go_enter Tryz.func145,Tryz.ntmps145
  go_wp2_with fail
  generalize ((w.alloc (.cells #[.int .u8 2,.int .i64 1,.string s] 183)).alloc (.cells #[.int .u8 3,.int .i64 0,.string ⟨#[84,82,85,69]⟩] 59)) = W2 at H1 ⊢
  have F3:=H1.out.sees
  simp only [sees,kBlk,kVar,cellsAt,Nat.reduceAdd] at F3
  obtain ⟨⟨⟨z0,fz0⟩,c0_0,c0_1,c0_2,-⟩,⟨z1,c1_0,c1_1,c1_2,-⟩,-⟩:=F3
  exact bodyPost_ret (v:=.agg #[.int .u8 3,.int .i64 0,.string ⟨#[84,82,85,69]⟩]) (by simp [results,Tryz.results145,go_sem,c0_0,c0_1,c0_2]) rfl ⟨rfl,H1.out.bel⟩
set_option maxRecDepth 100000 in
set_option maxHeartbeats 4000000 in
theorem val_word0 (s : ByteArray) (w : World) :
    Calls Tryz.prog 145 #[.agg #[.int .u8 2,.int .i64 0,.string s]] w fun e w' => e = .returned (.agg #[.int .u8 3,.int .i64 0,.string ⟨#[70,65,76,83,69]⟩]) ∧ Below w.heap.size w w':=by
  have H1:=Lib.hid (((Ok.start w).alloc w.heap.size 183 [.int .u8 2,.int .i64 0,.string s] rfl).var (w.heap.size + 1) 59 [.int .u8 3,.int .i64 0,.string ⟨#[70,65,76,83,69]⟩] (by simp))
  go_enter Tryz.func145,Tryz.ntmps145
  go_wp2_with fail
  generalize ((w.alloc (.cells #[.int .u8 2,.int .i64 0,.string s] 183)).alloc (.cells #[.int .u8 3,.int .i64 0,.string ⟨#[70,65,76,83,69]⟩] 59)) = W2 at H1 ⊢
  have F3:=H1.out.sees
  simp only [sees,kBlk,kVar,cellsAt,Nat.reduceAdd] at F3
  obtain ⟨⟨⟨z0,fz0⟩,c0_0,c0_1,c0_2,-⟩,⟨z1,c1_0,c1_1,c1_2,-⟩,-⟩:=F3
  exact bodyPost_ret (v:=.agg #[.int .u8 3,.int .i64 0,.string ⟨#[70,65,76,83,69]⟩]) (by simp [results,Tryz.results145,go_sem,c0_0,c0_1,c0_2]) rfl ⟨rfl,H1.out.bel⟩
set_option maxRecDepth 100000 in
set_option maxHeartbeats 4000000 in
theorem val_digits (n : Int) (s : ByteArray) (h1 : -9223372036854775808 ≤ n) (h2 : n ≤ 9223372036854775807) (w : World) :
    Calls Tryz.prog 144 #[.agg #[.int .u8 1,.int .i64 n,.string s]] w fun e w' => e = .returned (.agg #[.int .u8 3,.int .i64 0,.string ⟨(decS n).toArray⟩]) ∧ Below w.heap.size w w':=by
  have H1:=Lib.hid (((Ok.start w).alloc w.heap.size 183 [.int .u8 1,.int .i64 n,.string s] rfl).var (w.heap.size + 1) 59 [.int .u8 0,.int .i64 0,.string ⟨#[]⟩] (by simp))
  go_enter Tryz.func144,Tryz.ntmps144
  go_wp2_with fail
  generalize ((w.alloc (.cells #[.int .u8 1,.int .i64 n,.string s] 183)).alloc (.cells #[.int .u8 0,.int .i64 0,.string ⟨#[]⟩] 59)) = W2 at H1 ⊢
  have F3:=H1.out.sees
  simp only [sees,kBlk,kVar,cellsAt,Nat.reduceAdd] at F3
  obtain ⟨⟨⟨z0,fz0⟩,c0_0,c0_1,c0_2,-⟩,⟨z1,c1_0,c1_1,c1_2,-⟩,-⟩:=F3
  refine (dec_Format n _ h1 h2).mono ?_
  rintro e w4 ⟨rfl,hb5⟩
  clear z0 fz0 c0_0 c0_1 c0_2 z1 c1_0 c1_1 c1_2
  have H6:=Lib.hid (H1.out.below hb5)
  clear hb5 H1
  have F7:=H6.out.sees
  simp only [sees,kBlk,kVar,cellsAt,Nat.reduceAdd] at F7
  obtain ⟨⟨⟨z0,fz0⟩,c0_0,c0_1,c0_2,-⟩,⟨z1,c1_0,c1_1,c1_2,-⟩,-⟩:=F7
  go_wp2_with fail
  have hfar : ∀ x ∈ [kBlk (w.heap.size) 183 [.int .u8 1,.int .i64 n,.string s]],x.far (some (w.heap.size + 1)):=by
    intro x hx
    rw [List.mem_singleton] at hx
    subst hx
    show some w.heap.size ≠ some (w.heap.size + 1)
    simp
  have HE:=Lib.hid (((H6.out.set_ (i:=0) (u:=.int .u8 3) (by omega) hfar).set_ (i:=1) (u:=.int .i64 0) (by omega) hfar).set_ (i:=2) (u:=.string ⟨(decS n).toArray⟩) (by omega) hfar)
  have F9:=HE.out.sees
  simp only [sees,kVar,kBlk,cellsAt,Nat.reduceAdd,List.set_cons_succ,List.set_cons_zero] at F9
  obtain ⟨⟨⟨y0,g0⟩,r0,r1,r2,-⟩,-⟩:=F9
  exact bodyPost_ret (v:=.agg #[.int .u8 3,.int .i64 0,.string ⟨(decS n).toArray⟩]) (by simp [results,Tryz.results144,go_sem,r0,r1,r2]) rfl ⟨rfl,HE.out.bel⟩
set_option maxRecDepth 100000 in
set_option maxHeartbeats 4000000 in
theorem val_convert (dn fn : Nat) (Es : Array MapEntry) (k : Nat) (n : Int) (s : ByteArray) (bv : Value) (r0 r1 : Int) (r2 : ByteArray) (HD : Keep (∀ w,Calls Tryz.prog dn #[.agg #[.int .u8 (k : Nat),.int .i64 n,.string s]] w fun e w' => ∃ r,e = .returned (.map (some r)) ∧ w'.heap[r]? = some (.map Es 5) ∧ Below w.heap.size w w'))
    (HL : Keep (MapKept.IsKey (.int .u8) (.int .u8 (k : Nat)) ∧ ∃ i,Instr.findNow (.int .u8) (.int .u8 (k : Nat)) Es.toList 0 = some (some (i,.func (.func fn) #[bv] #[]))))
    (HF : Keep (∀ w,Calls Tryz.prog fn #[bv] w fun e w' => e = .returned (.agg #[.int .u8 r0,.int .i64 r1,.string r2]) ∧ Below w.heap.size w w')) (hegdn : ∀ args w,(callFunc dn args).run Tryz.prog w = .ok (.enter dn args) w) (hegfn : ∀ args w,(callFunc fn args).run Tryz.prog w = .ok (.enter fn args) w) (HSZ : Hid (s.size ≤ 4611686018427387904)) (hv : valE k n s.data.toList = 0) (w : World) :
    Calls Tryz.prog 141 #[.agg #[.int .u8 (k : Nat),.int .i64 n,.string s],.func (.func dn) #[] #[]] w fun e w' => e = .returned (.agg #[.int .u8 r0,.int .i64 r1,.string r2]) ∧ Below w.heap.size w w':=by
  have HVE:=keep hv
  clear hv
  have H1:=Lib.hid (((Ok.start w).alloc w.heap.size 59 [.int .u8 (k : Nat),.int .i64 n,.string s] rfl).var (w.heap.size + 1) 59 [.int .u8 0,.int .i64 0,.string ⟨#[]⟩] (by simp))
  go_enter Tryz.func141,Tryz.ntmps141
  go_upto_region 1 with fail
  generalize ((w.alloc (.cells #[.int .u8 (k : Nat),.int .i64 n,.string s] 59)).alloc (.cells #[.int .u8 0,.int .i64 0,.string ⟨#[]⟩] 59)) = W2 at H1 ⊢
  refine wp_region_held_drew (S:=fun W => Ok w [kVar (w.heap.size + 1) 59 [.int .u8 0,.int .i64 0,.string ⟨#[]⟩],kBlk (w.heap.size) 59 [.int .u8 (k : Nat),.int .i64 n,.string s]] W) (by kernel_rfl) H1.out.drew (fun hHeld => ?_)
  have H3:=Lib.hid H1.out.drew
  clear H1
  generalize W2.drew = W4 at hHeld H3 ⊢
  refine wpAnyH_take (i:=0) (v:=?vx1_0) rfl (by kernel_rfl) (by kernel_rfl) (by kernel_rfl) (fun _ _ _ h => h) (Or.inl ⟨by rfl,?hyx1_0⟩) (by assumption) ?restx1_0
  case hyx1_0 => (intro w hSw; have F:=Ok.sees hSw; clear hSw; simp only [sees,kBlk,kVar,cellsAt,Nat.reduceAdd] at F; go_simp; try with_reducible rfl)
  try simp only [Act.put,List.setIfInBounds_toArray,List.set_cons_zero,List.set_cons_succ,List.getElem_toArray,List.getElem_cons_zero]
  refine wpAnyH_take (i:=1) (v:=?vx2_1) rfl (by kernel_rfl) (by kernel_rfl) (by kernel_rfl) (fun _ _ _ h => h) (Or.inl ⟨by rfl,?hyx2_1⟩) (by assumption) ?restx2_1
  case hyx2_1 => (intro w hSw; have F:=Ok.sees hSw; clear hSw; simp only [sees,kBlk,kVar,cellsAt,Nat.reduceAdd] at F; go_simp; try with_reducible rfl)
  try simp only [Act.put,List.setIfInBounds_toArray,List.set_cons_zero,List.set_cons_succ,List.getElem_toArray,List.getElem_cons_succ,List.getElem_cons_zero]
  refine wpAnyH_take (i:=3) (v:=?vx3_3) rfl (by kernel_rfl) (by kernel_rfl) (by kernel_rfl) (fun _ _ _ h => h) (Or.inl ⟨by rfl,?hyx3_3⟩) (by assumption) ?restx3_3
  case hyx3_3 => (intro w hSw; have F:=Ok.sees hSw; clear hSw; simp only [sees,kBlk,kVar,cellsAt,Nat.reduceAdd] at F; go_simp; try with_reducible rfl)
  try simp only [Act.put,List.setIfInBounds_toArray,List.set_cons_zero,List.set_cons_succ,List.getElem_toArray,List.getElem_cons_succ,List.getElem_cons_zero]
  refine wpAnyH_take (i:=4) (v:=?vx4_4) rfl (by kernel_rfl) (by kernel_rfl) (by kernel_rfl) (fun _ _ _ h => h) (Or.inl ⟨by rfl,?hyx4_4⟩) (by assumption) ?restx4_4
  case hyx4_4 => (intro w hSw; have F:=Ok.sees hSw; clear hSw; simp only [sees,kBlk,kVar,cellsAt,Nat.reduceAdd] at F; go_simp; try with_reducible rfl)
  try simp only [Act.put,List.setIfInBounds_toArray,List.set_cons_zero,List.set_cons_succ,List.getElem_toArray,List.getElem_cons_succ,List.getElem_cons_zero]
  refine wpAnyH_ready (rs:=[2]) (by kernel_rfl) (by simp) ?_
  refine AllReadyH.cons rfl (fun K hK => ?_) AllReadyH.nil
  go_simp
  refine (HD.out _).mono ?_
  rintro e w5 ⟨r,rfl,hr,hb6⟩
  go_wp2_with fail
  have H7:=Lib.hid (H3.out.below hb6)
  clear hb6 H3
  obtain ⟨hkey,i,hfind⟩:=HL.out
  have hlk:=look_ok _ _ _ _ tt_map tt_key hr _ _ hkey hfind
  clear hkey hfind
  have HR:=keep hr
  clear hr
  refine hK.out _ _ (H7.out) (fun hHeld => ?_)
  clear hK K
  try simp only [Act.put,List.setIfInBounds_toArray,List.set_cons_zero,List.set_cons_succ,List.getElem_toArray,List.getElem_cons_succ,List.getElem_cons_zero]
  refine wpAnyH_ready (rs:=[5]) (by kernel_rfl) (by simp) ?_
  refine AllReadyH.cons rfl (fun K hK => ?_) AllReadyH.nil
  go_simp
  go_wp2_with fail
  clear hlk HR
  refine hK.out _ _ (H7.out) (fun hHeld => ?_)
  clear hK K
  try simp only [Act.put,List.setIfInBounds_toArray,List.set_cons_zero,List.set_cons_succ,List.getElem_toArray,List.getElem_cons_succ,List.getElem_cons_zero]
  refine wpAnyH_take (i:=6) (v:=?vx5_6) rfl (by kernel_rfl) (by kernel_rfl) (by kernel_rfl) (fun _ _ _ h => h) (Or.inl ⟨by rfl,?hyx5_6⟩) (by assumption) ?restx5_6
  case hyx5_6 => (intro w hSw; have F:=Ok.sees hSw; clear hSw; simp only [sees,kBlk,kVar,cellsAt,Nat.reduceAdd] at F; go_simp; try with_reducible rfl)
  try simp only [Act.put,List.setIfInBounds_toArray,List.set_cons_zero,List.set_cons_succ,List.getElem_toArray,List.getElem_cons_succ,List.getElem_cons_zero]
  refine wpAnyH_take (i:=7) (v:=?vx6_7) rfl (by kernel_rfl) (by kernel_rfl) (by kernel_rfl) (fun _ _ _ h => h) (Or.inl ⟨by rfl,?hyx6_7⟩) (by assumption) ?restx6_7
  case hyx6_7 => (intro w hSw; have F:=Ok.sees hSw; clear hSw; simp only [sees,kBlk,kVar,cellsAt,Nat.reduceAdd] at F; go_simp; try with_reducible rfl)
  try simp only [Act.put,List.setIfInBounds_toArray,List.set_cons_zero,List.set_cons_succ,List.getElem_toArray,List.getElem_cons_succ,List.getElem_cons_zero]
  refine wpAnyH_take (i:=8) (v:=?vx7_8) rfl (by kernel_rfl) (by kernel_rfl) (by kernel_rfl) (fun _ _ _ h => h) (Or.inl ⟨by rfl,?hyx7_8⟩) (by assumption) ?restx7_8
  case hyx7_8 => (intro w hSw; have F:=Ok.sees hSw; clear hSw; simp only [sees,kBlk,kVar,cellsAt,Nat.reduceAdd] at F; go_simp; try with_reducible rfl)
  try simp only [Act.put,List.setIfInBounds_toArray,List.set_cons_zero,List.set_cons_succ,List.getElem_toArray,List.getElem_cons_succ,List.getElem_cons_zero]
  refine wpAnyH_take (i:=9) (v:=?vx8_9) rfl (by kernel_rfl) (by kernel_rfl) (by kernel_rfl) (fun _ _ _ h => h) (Or.inl ⟨by rfl,?hyx8_9⟩) (by assumption) ?restx8_9
  case hyx8_9 => (intro w hSw; have F:=Ok.sees hSw; clear hSw; simp only [sees,kBlk,kVar,cellsAt,Nat.reduceAdd] at F; go_simp; try with_reducible rfl)
  try simp only [Act.put,List.setIfInBounds_toArray,List.set_cons_zero,List.set_cons_succ,List.getElem_toArray,List.getElem_cons_succ,List.getElem_cons_zero]
  refine wpAnyH_take (i:=10) (v:=?vx9_10) rfl (by kernel_rfl) (by kernel_rfl) (by kernel_rfl) (fun _ _ _ h => h) (Or.inl ⟨by rfl,?hyx9_10⟩) (by assumption) ?restx9_10
  case hyx9_10 => (intro w hSw; have F:=Ok.sees hSw; clear hSw; simp only [sees,kBlk,kVar,cellsAt,Nat.reduceAdd] at F; go_simp; try with_reducible rfl)
  try simp only [Act.put,List.setIfInBounds_toArray,List.set_cons_zero,List.set_cons_succ,List.getElem_toArray,List.getElem_cons_succ,List.getElem_cons_zero]
  refine wpAnyH_done (by kernel_rfl) ?_ _
  clear hHeld
  have F8:=H7.out.sees
  simp only [sees,kBlk,kVar,cellsAt,Nat.reduceAdd] at F8
  obtain ⟨⟨⟨z0,fz0⟩,c0_0,c0_1,c0_2,-⟩,⟨z1,c1_0,c1_1,c1_2,-⟩,-⟩:=F8
  go_wp2_with fail
  refine (val_Check k n s HSZ.out _).mono ?_
  rintro e w9 ⟨rfl,hb10⟩
  rw [HVE.out]
  clear z0 fz0 c0_0 c0_1 c0_2 z1 c1_0 c1_1 c1_2
  have H11:=Lib.hid (H7.out.below hb10)
  clear hb10 H7
  have F12:=H11.out.sees
  simp only [sees,kBlk,kVar,cellsAt,Nat.reduceAdd] at F12
  obtain ⟨⟨⟨z0,fz0⟩,c0_0,c0_1,c0_2,-⟩,⟨z1,c1_0,c1_1,c1_2,-⟩,-⟩:=F12
  go_wp2_with fail
  refine (HF.out _).mono ?_
  rintro e w13 ⟨rfl,hb14⟩
  clear z0 fz0 c0_0 c0_1 c0_2 z1 c1_0 c1_1 c1_2
  have H15:=Lib.hid (H11.out.below hb14)
  clear hb14 H11
  have F16:=H15.out.sees
  simp only [sees,kBlk,kVar,cellsAt,Nat.reduceAdd] at F16
  obtain ⟨⟨⟨z0,fz0⟩,c0_0,c0_1,c0_2,-⟩,⟨z1,c1_0,c1_1,c1_2,-⟩,-⟩:=F16
  go_wp2_with fail
  have hfar : ∀ x ∈ [kBlk (w.heap.size) 59 [.int .u8 (k : Nat),.int .i64 n,.string s]],x.far (some (w.heap.size + 1)):=by
    intro x hx
    rw [List.mem_singleton] at hx
    subst hx
    show some w.heap.size ≠ some (w.heap.size + 1)
    simp
  have HE:=Lib.hid (((H15.out.set_ (i:=0) (u:=.int .u8 r0) (by omega) hfar).set_ (i:=1) (u:=.int .i64 r1) (by omega) hfar).set_ (i:=2) (u:=.string r2) (by omega) hfar)
  have F9:=HE.out.sees
  simp only [sees,kVar,kBlk,cellsAt,Nat.reduceAdd,List.set_cons_succ,List.set_cons_zero] at F9
  obtain ⟨⟨⟨y0,g0⟩,q0,q1,q2,-⟩,-⟩:=F9
  exact bodyPost_ret (v:=.agg #[.int .u8 r0,.int .i64 r1,.string r2]) (by simp [results,Tryz.results141,go_sem,q0,q1,q2]) rfl ⟨rfl,HE.out.bel⟩
set_option maxRecDepth 100000 in
set_option maxHeartbeats 4000000 in
theorem totextG (k : Nat) (n : Int) (s R : ByteArray) (HC : Keep (∀ w,Calls Tryz.prog 141 #[.agg #[.int .u8 (k : Nat),.int .i64 n,.string s],.func (.func 142) #[] #[]] w fun e w' => e = .returned (.agg #[.int .u8 3,.int .i64 0,.string R]) ∧ Below w.heap.size w w')) (w : World) :
    Calls Tryz.prog 101 #[.agg #[.int .u8 (k : Nat),.int .i64 n,.string s]] w fun e w' => e = .returned (.agg #[.int .u8 3,.int .i64 0,.string R]) ∧ Below w.heap.size w w':=by
  have H1:=Lib.hid (((Ok.start w).alloc w.heap.size 59 [.int .u8 (k : Nat),.int .i64 n,.string s] rfl).var (w.heap.size + 1) 59 [.int .u8 0,.int .i64 0,.string ⟨#[]⟩] (by simp))
  go_enter Tryz.func101,Tryz.ntmps101
  go_wp2_with fail
  generalize ((w.alloc (.cells #[.int .u8 (k : Nat),.int .i64 n,.string s] 59)).alloc (.cells #[.int .u8 0,.int .i64 0,.string ⟨#[]⟩] 59)) = W2 at H1 ⊢
  have F3:=H1.out.sees
  simp only [sees,kBlk,kVar,cellsAt,Nat.reduceAdd] at F3
  obtain ⟨⟨⟨z0,fz0⟩,c0_0,c0_1,c0_2,-⟩,⟨z1,c1_0,c1_1,c1_2,-⟩,-⟩:=F3
  refine (HC.out _).mono ?_
  rintro e w4 ⟨rfl,hb5⟩
  clear z0 fz0 c0_0 c0_1 c0_2 z1 c1_0 c1_1 c1_2
  have H6:=Lib.hid (H1.out.below hb5)
  clear hb5 H1
  have F7:=H6.out.sees
  simp only [sees,kBlk,kVar,cellsAt,Nat.reduceAdd] at F7
  obtain ⟨⟨⟨z0,fz0⟩,c0_0,c0_1,c0_2,-⟩,⟨z1,c1_0,c1_1,c1_2,-⟩,-⟩:=F7
  go_wp2_with fail
  have hfar : ∀ x ∈ [kBlk (w.heap.size) 59 [.int .u8 (k : Nat),.int .i64 n,.string s]],x.far (some (w.heap.size + 1)):=by
    intro x hx
    rw [List.mem_singleton] at hx
    subst hx
    show some w.heap.size ≠ some (w.heap.size + 1)
    simp
  have HE:=Lib.hid (((H6.out.set_ (i:=0) (u:=.int .u8 3) (by omega) hfar).set_ (i:=1) (u:=.int .i64 0) (by omega) hfar).set_ (i:=2) (u:=.string R) (by omega) hfar)
  have F9:=HE.out.sees
  simp only [sees,kVar,kBlk,cellsAt,Nat.reduceAdd,List.set_cons_succ,List.set_cons_zero] at F9
  obtain ⟨⟨⟨y0,g0⟩,q0,q1,q2,-⟩,-⟩:=F9
  exact bodyPost_ret (v:=.agg #[.int .u8 3,.int .i64 0,.string R]) (by simp [results,Tryz.results101,go_sem,q0,q1,q2]) rfl ⟨rfl,HE.out.bel⟩
theorem field_text (a b : Value) (x : ByteArray) (w : World) : (Instr.field 59 (.agg #[a,b,.string x]) 2).run Tryz.prog w = .ok (.string x) w:=by kernel_rfl
set_option maxRecDepth 100000 in
set_option maxHeartbeats 4000000 in
theorem showG (k : Nat) (n : Int) (s R : ByteArray) (h4 : ((k : Int) == 4) = false) (HC : Keep (∀ w,Calls Tryz.prog 141 #[.agg #[.int .u8 (k : Nat),.int .i64 n,.string s],.func (.func 142) #[] #[]] w fun e w' => e = .returned (.agg #[.int .u8 3,.int .i64 0,.string R]) ∧ Below w.heap.size w w')) (HSZ : Hid (s.size ≤ 4611686018427387904)) (hv : valE k n s.data.toList = 0) (w : World) :
    Calls Tryz.prog 56 #[.agg #[.int .u8 (k : Nat),.int .i64 n,.string s]] w fun e w' => e = .returned (.string R) ∧ Below w.heap.size w w':=by
  have HVE:=keep hv
  clear hv
  have hq : eq3 (k : Nat) n 4 7 s.toList [] = false:=by
    cases h : eq3 (k : Nat) n 4 7 s.toList [] with
    | false => rfl
    | true => rw [((eq3_iff ..).1 h).1] at h4; exact absurd h4 (by decide)
  have hft:=field_text (.int .u8 3) (.int .i64 0)
  have H1:=Lib.hid ((Ok.start w).alloc w.heap.size 59 [.int .u8 (k : Nat),.int .i64 n,.string s] rfl)
  go_enter Tryz.func56,Tryz.ntmps56
  go_wp2_with fail
  generalize (w.alloc (.cells #[.int .u8 (k : Nat),.int .i64 n,.string s] 59)) = W2 at H1 ⊢
  refine wp_region_held_drew (S:=fun W => Ok w [kBlk (w.heap.size) 59 [.int .u8 (k : Nat),.int .i64 n,.string s]] W) (by kernel_rfl) H1.out.drew (fun hHeld => ?_)
  refine wpAnyH_take (i:=0) (v:=?vx10_0) rfl (by kernel_rfl) (by kernel_rfl) (by kernel_rfl) (fun _ _ _ h => h) (Or.inl ⟨by rfl,?hyx10_0⟩) (by assumption) ?restx10_0
  case hyx10_0 => (intro w hSw; have F:=Ok.sees hSw; clear hSw; simp only [sees,kBlk,cellsAt,Nat.reduceAdd] at F; go_simp; try with_reducible rfl)
  try simp only [Act.put,List.setIfInBounds_toArray,List.set_cons_zero,List.set_cons_succ,List.getElem_toArray,List.getElem_cons_zero]
  refine wpAnyH_ready (rs:=[1]) (by kernel_rfl) (by simp) ?_
  refine AllReadyH.cons rfl (fun K hK => ?_) AllReadyH.nil
  go_simp
  refine (fail_code 7 (by decide) (by decide) _).mono ?_
  rintro e w4 ⟨rfl,hb5⟩
  go_wp2_with fail
  refine hK.out _ _ (hHeld.below hb5) (fun hHeld => ?_)
  clear hK K
  try simp only [Act.put,List.setIfInBounds_toArray,List.set_cons_zero,List.set_cons_succ,List.getElem_toArray,List.getElem_cons_succ,List.getElem_cons_zero]
  refine wpAnyH_take (i:=2) (v:=?vx11_2) rfl (by kernel_rfl) (by kernel_rfl) (by kernel_rfl) (fun _ _ _ h => h) (Or.inl ⟨by rfl,?hyx11_2⟩) (by assumption) ?restx11_2
  case hyx11_2 => (intro w hSw; have F:=Ok.sees hSw; clear hSw; simp only [sees,kBlk,cellsAt,Nat.reduceAdd] at F; go_simp; try with_reducible rfl)
  try simp only [Act.put,List.setIfInBounds_toArray,List.set_cons_zero,List.set_cons_succ,List.getElem_toArray,List.getElem_cons_succ,List.getElem_cons_zero]
  refine wpAnyH_take (i:=3) (v:=?vx12_3) rfl (by kernel_rfl) (by kernel_rfl) (by kernel_rfl) (fun _ _ _ h => h) (Or.inl ⟨by rfl,?hyx12_3⟩) (by assumption) ?restx12_3
  case hyx12_3 => (intro w hSw; have F:=Ok.sees hSw; clear hSw; simp only [sees,kBlk,cellsAt,Nat.reduceAdd] at F; go_simp; try with_reducible rfl)
  try simp only [Act.put,List.setIfInBounds_toArray,List.set_cons_zero,List.set_cons_succ,List.getElem_toArray,List.getElem_cons_succ,List.getElem_cons_zero]
  refine wpAnyH_take (i:=4) (v:=?vx13_4) rfl (by kernel_rfl) (by kernel_rfl) (by kernel_rfl) (fun _ _ _ h => h) (Or.inl ⟨by rfl,?hyx13_4⟩) (by assumption) ?restx13_4
  case hyx13_4 => (intro w hSw; have F:=Ok.sees hSw; clear hSw; simp only [sees,kBlk,cellsAt,Nat.reduceAdd] at F; go_simp; try with_reducible rfl)
  try simp only [Act.put,List.setIfInBounds_toArray,List.set_cons_zero,List.set_cons_succ,List.getElem_toArray,List.getElem_cons_succ,List.getElem_cons_zero]
  refine wpAnyH_take (i:=5) (v:=?vx14_5) rfl (by kernel_rfl) (by kernel_rfl) (by kernel_rfl) (fun _ _ _ h => h) (Or.inl ⟨by rfl,?hyx14_5⟩) (by assumption) ?restx14_5
  case hyx14_5 => (intro w hSw; have F:=Ok.sees hSw; clear hSw; simp only [sees,kBlk,cellsAt,Nat.reduceAdd] at F; go_simp; try with_reducible rfl)
  try simp only [Act.put,List.setIfInBounds_toArray,List.set_cons_zero,List.set_cons_succ,List.getElem_toArray,List.getElem_cons_succ,List.getElem_cons_zero]
  refine wpAnyH_take (i:=6) (v:=?vx15_6) rfl (by kernel_rfl) (by kernel_rfl) (by kernel_rfl) (fun _ _ _ h => h) (Or.inl ⟨by rfl,?hyx15_6⟩) (by assumption) ?restx15_6
  case hyx15_6 => (intro w hSw; have F:=Ok.sees hSw; clear hSw; simp only [sees,kBlk,cellsAt,Nat.reduceAdd] at F; go_simp; try with_reducible rfl)
  try simp only [Act.put,List.setIfInBounds_toArray,List.set_cons_zero,List.set_cons_succ,List.getElem_toArray,List.getElem_cons_succ,List.getElem_cons_zero]
  refine wpAnyH_take (i:=7) (v:=?vx16_7) rfl (by kernel_rfl) (by kernel_rfl) (by kernel_rfl) (fun _ _ _ h => h) (Or.inl ⟨by rfl,?hyx16_7⟩) (by assumption) ?restx16_7
  case hyx16_7 => (intro w hSw; have F:=Ok.sees hSw; clear hSw; simp only [sees,kBlk,cellsAt,Nat.reduceAdd] at F; go_simp; try with_reducible rfl)
  try simp only [Act.put,List.setIfInBounds_toArray,List.set_cons_zero,List.set_cons_succ,List.getElem_toArray,List.getElem_cons_succ,List.getElem_cons_zero]
  refine wpAnyH_take (i:=8) (v:=undef) rfl (by kernel_rfl) (by kernel_rfl) (by kernel_rfl) (fun _ _ _ h => h) (Or.inr ⟨by rfl,rfl⟩) (by assumption) ?_
  try simp only [Act.put,List.setIfInBounds_toArray,List.set_cons_zero,List.set_cons_succ,List.getElem_toArray,List.getElem_cons_succ,List.getElem_cons_zero]
  refine wpAnyH_take (i:=9) (v:=undef) rfl (by kernel_rfl) (by kernel_rfl) (by kernel_rfl) (fun _ _ _ h => h) (Or.inr ⟨by rfl,rfl⟩) (by assumption) ?_
  try simp only [Act.put,List.setIfInBounds_toArray,List.set_cons_zero,List.set_cons_succ,List.getElem_toArray,List.getElem_cons_succ,List.getElem_cons_zero]
  refine wpAnyH_take (i:=10) (v:=undef) rfl (by kernel_rfl) (by kernel_rfl) (by kernel_rfl) (fun _ _ _ h => h) (Or.inr ⟨by rfl,rfl⟩) (by assumption) ?_
  try simp only [Act.put,List.setIfInBounds_toArray,List.set_cons_zero,List.set_cons_succ,List.getElem_toArray,List.getElem_cons_succ,List.getElem_cons_zero]
  refine wpAnyH_take (i:=11) (v:=?vx20_11) rfl (by kernel_rfl) (by kernel_rfl) (by kernel_rfl) (fun _ _ _ h => h) (Or.inl ⟨by rfl,?hyx20_11⟩) (by assumption) ?restx20_11
  case hyx20_11 => (intro w hSw; have F:=Ok.sees hSw; clear hSw; simp only [sees,kBlk,cellsAt,Nat.reduceAdd] at F; go_simp; try with_reducible rfl)
  try simp only [Act.put,List.setIfInBounds_toArray,List.set_cons_zero,List.set_cons_succ,List.getElem_toArray,List.getElem_cons_succ,List.getElem_cons_zero]
  refine wpAnyH_take (i:=12) (v:=?vx21_12) rfl (by kernel_rfl) (by kernel_rfl) (by kernel_rfl) (fun _ _ _ h => h) (Or.inl ⟨by rfl,?hyx21_12⟩) (by assumption) ?restx21_12
  case hyx21_12 => (intro w hSw; have F:=Ok.sees hSw; clear hSw; simp only [sees,kBlk,cellsAt,Nat.reduceAdd] at F; go_simp; try with_reducible rfl)
  try simp only [Act.put,List.setIfInBounds_toArray,List.set_cons_zero,List.set_cons_succ,List.getElem_toArray,List.getElem_cons_succ,List.getElem_cons_zero]
  refine wpAnyH_done (by kernel_rfl) ?_ _
  clear H1
  have H6:=Lib.hid hHeld
  clear hHeld
  have F7:=H6.out.sees
  simp only [sees,kBlk,cellsAt,Nat.reduceAdd] at F7
  obtain ⟨⟨z0,c0_0,c0_1,c0_2,-⟩,-⟩:=F7
  go_wp2_with fail
  refine (val_Check k n s HSZ.out _).mono ?_
  rintro e w8 ⟨rfl,hb9⟩
  rw [HVE.out]
  clear z0 c0_0 c0_1 c0_2
  have H10:=Lib.hid (H6.out.below hb9)
  clear hb9 H6
  have F11:=H10.out.sees
  simp only [sees,kBlk,cellsAt,Nat.reduceAdd] at F11
  obtain ⟨⟨z0,c0_0,c0_1,c0_2,-⟩,-⟩:=F11
  go_wp2_with fail
  refine (totextG k n s R HC _).mono ?_
  rintro e w12 ⟨rfl,hb13⟩
  clear z0 c0_0 c0_1 c0_2
  have H14:=Lib.hid (H10.out.below hb13)
  clear hb13 H10
  have F15:=H14.out.sees
  simp only [sees,kBlk,cellsAt,Nat.reduceAdd] at F15
  obtain ⟨⟨z0,c0_0,c0_1,c0_2,-⟩,-⟩:=F15
  go_wp2_with fail
  go_ret
  exact ⟨rfl,H14.out.bel⟩
theorem show_0  (hs : (⟨#[]⟩ : ByteArray).size ≤ 4611686018427387904) (hv : valE 0 0 (⟨#[]⟩ : ByteArray).data.toList = 0) (w : World) :
    Calls Tryz.prog 56 #[.agg #[.int .u8 0,.int .i64 0,.string ⟨#[]⟩]] w fun e w' => e = .returned (.string ⟨#[]⟩) ∧ Below w.heap.size w w' :=
  showG 0 0 ⟨#[]⟩ ⟨#[]⟩ (by decide) (keep fun w => val_convert 142 143 (ttEs (.agg #[.int .u8 0,.int .i64 0,.string ⟨#[]⟩])) 0 0 ⟨#[]⟩ (.agg #[.int .u8 3,.int .i64 0,.string ⟨#[]⟩]) 3 0 ⟨#[]⟩ (keep fun w => totext1 _ _ _ w) (keep ⟨by simp [MapKept.IsKey],0,rfl⟩) (keep fun w => val_same 3 0 ⟨#[]⟩ w) (fun _ _ => by kernel_rfl) (fun _ _ => by kernel_rfl) (Lib.hid hs) hv w) (Lib.hid hs) hv w
theorem show_1 (n : Int) (h1 : -9223372036854775808 ≤ n) (h2 : n ≤ 9223372036854775807) (hs : (⟨#[]⟩ : ByteArray).size ≤ 4611686018427387904) (hv : valE 1 n (⟨#[]⟩ : ByteArray).data.toList = 0) (w : World) :
    Calls Tryz.prog 56 #[.agg #[.int .u8 1,.int .i64 n,.string ⟨#[]⟩]] w fun e w' => e = .returned (.string ⟨(decS n).toArray⟩) ∧ Below w.heap.size w w' :=
  showG 1 n ⟨#[]⟩ ⟨(decS n).toArray⟩ (by decide) (keep fun w => val_convert 142 144 (ttEs (.agg #[.int .u8 1,.int .i64 n,.string ⟨#[]⟩])) 1 n ⟨#[]⟩ (.agg #[.int .u8 1,.int .i64 n,.string ⟨#[]⟩]) 3 0 ⟨(decS n).toArray⟩ (keep fun w => totext1 _ _ _ w) (keep ⟨by simp [MapKept.IsKey],1,rfl⟩) (keep fun w => val_digits n ⟨#[]⟩ h1 h2 w) (fun _ _ => by kernel_rfl) (fun _ _ => by kernel_rfl) (Lib.hid hs) hv w) (Lib.hid hs) hv w
theorem show_20  (hs : (⟨#[]⟩ : ByteArray).size ≤ 4611686018427387904) (hv : valE 2 0 (⟨#[]⟩ : ByteArray).data.toList = 0) (w : World) :
    Calls Tryz.prog 56 #[.agg #[.int .u8 2,.int .i64 0,.string ⟨#[]⟩]] w fun e w' => e = .returned (.string ⟨#[70,65,76,83,69]⟩) ∧ Below w.heap.size w w' :=
  showG 2 0 ⟨#[]⟩ ⟨#[70,65,76,83,69]⟩ (by decide) (keep fun w => val_convert 142 145 (ttEs (.agg #[.int .u8 2,.int .i64 0,.string ⟨#[]⟩])) 2 0 ⟨#[]⟩ (.agg #[.int .u8 2,.int .i64 0,.string ⟨#[]⟩]) 3 0 ⟨#[70,65,76,83,69]⟩ (keep fun w => totext1 _ _ _ w) (keep ⟨by simp [MapKept.IsKey],2,rfl⟩) (keep fun w => val_word0 ⟨#[]⟩ w) (fun _ _ => by kernel_rfl) (fun _ _ => by kernel_rfl) (Lib.hid hs) hv w) (Lib.hid hs) hv w
theorem show_21  (hs : (⟨#[]⟩ : ByteArray).size ≤ 4611686018427387904) (hv : valE 2 1 (⟨#[]⟩ : ByteArray).data.toList = 0) (w : World) :
    Calls Tryz.prog 56 #[.agg #[.int .u8 2,.int .i64 1,.string ⟨#[]⟩]] w fun e w' => e = .returned (.string ⟨#[84,82,85,69]⟩) ∧ Below w.heap.size w w' :=
  showG 2 1 ⟨#[]⟩ ⟨#[84,82,85,69]⟩ (by decide) (keep fun w => val_convert 142 145 (ttEs (.agg #[.int .u8 2,.int .i64 1,.string ⟨#[]⟩])) 2 1 ⟨#[]⟩ (.agg #[.int .u8 2,.int .i64 1,.string ⟨#[]⟩]) 3 0 ⟨#[84,82,85,69]⟩ (keep fun w => totext1 _ _ _ w) (keep ⟨by simp [MapKept.IsKey],2,rfl⟩) (keep fun w => val_word1 ⟨#[]⟩ w) (fun _ _ => by kernel_rfl) (fun _ _ => by kernel_rfl) (Lib.hid hs) hv w) (Lib.hid hs) hv w
theorem show_3 (s : ByteArray) (hs : (s : ByteArray).size ≤ 4611686018427387904) (hv : valE 3 0 (s : ByteArray).data.toList = 0) (w : World) :
    Calls Tryz.prog 56 #[.agg #[.int .u8 3,.int .i64 0,.string s]] w fun e w' => e = .returned (.string s) ∧ Below w.heap.size w w' :=
  showG 3 0 s s (by decide) (keep fun w => val_convert 142 143 (ttEs (.agg #[.int .u8 3,.int .i64 0,.string s])) 3 0 s (.agg #[.int .u8 3,.int .i64 0,.string s]) 3 0 s (keep fun w => totext1 _ _ _ w) (keep ⟨by simp [MapKept.IsKey],3,rfl⟩) (keep fun w => val_same 3 0 s w) (fun _ _ => by kernel_rfl) (fun _ _ => by kernel_rfl) (Lib.hid hs) hv w) (Lib.hid hs) hv w
def showV (k : Nat) (n : Int) (t : List UInt8) : List UInt8 :=
  if k = 1 then decS n else if k = 2 then (if n = 1 then trueB else falseB) else if k = 3 then t else if k = 4 then allNames[n.toNat]?.getD [] else []
theorem val_Show (k : Nat) (n : Int) (s : ByteArray) (hs : s.size ≤ 4611686018427387904) (h1 : -9223372036854775808 ≤ n) (h2 : n ≤ 9223372036854775807) (w : World) (hw : Words w) (hc : cellV k n s.data.toList) :
    Calls Tryz.prog 56 #[.agg #[.int .u8 (k : Nat),.int .i64 n,.string s]] w fun e w' => e = .returned (.string ⟨(showV k n s.data.toList).toArray⟩) ∧ Below w.heap.size w w':=by
  have hv:=valE_yes hc
  have nil : s.data.toList = [] → s = ⟨#[]⟩:=by
    intro e
    apply Classical.byContradiction
    intro h
    exact (str_nil h).1 e
  rcases hc with ⟨rfl,rfl,h⟩ | ⟨rfl,h,h0⟩ | ⟨rfl,h,h0⟩ | ⟨rfl,rfl,h⟩ | ⟨rfl,h,g1,g2⟩
  · obtain rfl:=nil h
    exact show_0 (by decide) hv w
  · obtain rfl:=nil h
    exact show_1 n h1 h2 (by decide) hv w
  · obtain rfl:=nil h
    rcases h0 with rfl | rfl
    · exact show_20 (by decide) hv w
    · exact show_21 (by decide) hv w
  · have : showV 3 0 s.data.toList = s.data.toList:=rfl
    rw [this]
    exact show_3 s hs hv w
  · obtain rfl:=nil h
    exact show_err n g1 (by omega) w hw
end Go.Proofs.YtmalncmdfmoccaaGreatDoor
