/- val.ToText and val.Show at the values of a cell. -/
import Derived.Test.YtlbigmlaokdmdaaGreatDoorKIterV
import Derived.Test.YtlbigmlaokdmdaaGreatDoorKAddrP
import Derived.Test.YtlbigmlaokdmdaaGreatDoorKEqV
import Derived.Test.YtlbigmlaokdmdaaGreatDoorKDecF
import Derived.Test.YtlbigmlaokdmdaaGreatDoorKVal
import Derived.Laws.EntriesVeiled
namespace Go.Proofs.YtlbigmlaokdmdaaGreatDoor
open Go.RowKit
attribute [local go_sem high] eq_val
def bnd (f : Nat) (v : Value) : Value:=.func (.func f) #[v] #[]
def blankV : Value:=.agg #[.int .u8 3,.int .i64 0,.string ⟨#[]⟩]
theorem tt_map : Tryz.prog.underlying 130 = some (.map 5 131):=by kernel_rfl
theorem tt_key : Tryz.prog.underlying 5 = some (.int .u8):=by kernel_rfl
def ttEs (v : Value) : Array MapEntry:=#[{ key:=.int .u8 0,val:=bnd 101 blankV,born:=0 },{ key:=.int .u8 1,val:=bnd 102 v,born:=1 },{ key:=.int .u8 2,val:=bnd 103 v,born:=2 },{ key:=.int .u8 3,val:=bnd 101 v,born:=3 },{ key:=.int .u8 4,val:=bnd 101 v,born:=4 }]
theorem tt_0 (_v : Value) (w : World) : (Instr.mapUpdate 130 (.map (some w.heap.size)) (.int .u8 0) (.func (.func 101) #[.agg #[.int .u8 3,.int .i64 0,.string ⟨#[]⟩]] #[])).run Tryz.prog (w.alloc (.map #[] 0)) = .ok () (w.alloc (.map #[{ key:=.int .u8 0,val:=bnd 101 blankV,born:=0 }] 1)) :=
 ins_new _ _ _ _ tt_map tt_key _ _ _ _ (by simp [MapKept.IsKey]) rfl w
theorem tt_1 (v : Value) (w : World) : (Instr.mapUpdate 130 (.map (some w.heap.size)) (.int .u8 1) (.func (.func 102) #[v] #[])).run Tryz.prog (w.alloc (.map #[{ key:=.int .u8 0,val:=bnd 101 blankV,born:=0 }] 1)) = .ok () (w.alloc (.map #[{ key:=.int .u8 0,val:=bnd 101 blankV,born:=0 },{ key:=.int .u8 1,val:=bnd 102 v,born:=1 }] 2)) :=
 ins_new _ _ _ _ tt_map tt_key _ _ _ _ (by simp [MapKept.IsKey]) rfl w
theorem tt_2 (v : Value) (w : World) : (Instr.mapUpdate 130 (.map (some w.heap.size)) (.int .u8 2) (.func (.func 103) #[v] #[])).run Tryz.prog (w.alloc (.map #[{ key:=.int .u8 0,val:=bnd 101 blankV,born:=0 },{ key:=.int .u8 1,val:=bnd 102 v,born:=1 }] 2)) = .ok () (w.alloc (.map #[{ key:=.int .u8 0,val:=bnd 101 blankV,born:=0 },{ key:=.int .u8 1,val:=bnd 102 v,born:=1 },{ key:=.int .u8 2,val:=bnd 103 v,born:=2 }] 3)) :=
 ins_new _ _ _ _ tt_map tt_key _ _ _ _ (by simp [MapKept.IsKey]) rfl w
theorem tt_3 (v : Value) (w : World) : (Instr.mapUpdate 130 (.map (some w.heap.size)) (.int .u8 3) (.func (.func 101) #[v] #[])).run Tryz.prog (w.alloc (.map #[{ key:=.int .u8 0,val:=bnd 101 blankV,born:=0 },{ key:=.int .u8 1,val:=bnd 102 v,born:=1 },{ key:=.int .u8 2,val:=bnd 103 v,born:=2 }] 3)) = .ok () (w.alloc (.map #[{ key:=.int .u8 0,val:=bnd 101 blankV,born:=0 },{ key:=.int .u8 1,val:=bnd 102 v,born:=1 },{ key:=.int .u8 2,val:=bnd 103 v,born:=2 },{ key:=.int .u8 3,val:=bnd 101 v,born:=3 }] 4)) :=
 ins_new _ _ _ _ tt_map tt_key _ _ _ _ (by simp [MapKept.IsKey]) rfl w
theorem tt_4 (v : Value) (w : World) : (Instr.mapUpdate 130 (.map (some w.heap.size)) (.int .u8 4) (.func (.func 101) #[v] #[])).run Tryz.prog (w.alloc (.map #[{ key:=.int .u8 0,val:=bnd 101 blankV,born:=0 },{ key:=.int .u8 1,val:=bnd 102 v,born:=1 },{ key:=.int .u8 2,val:=bnd 103 v,born:=2 },{ key:=.int .u8 3,val:=bnd 101 v,born:=3 }] 4)) = .ok () (w.alloc (.map #[{ key:=.int .u8 0,val:=bnd 101 blankV,born:=0 },{ key:=.int .u8 1,val:=bnd 102 v,born:=1 },{ key:=.int .u8 2,val:=bnd 103 v,born:=2 },{ key:=.int .u8 3,val:=bnd 101 v,born:=3 },{ key:=.int .u8 4,val:=bnd 101 v,born:=4 }] 5)) :=
 ins_new _ _ _ _ tt_map tt_key _ _ _ _ (by simp [MapKept.IsKey]) rfl w
set_option maxRecDepth 100000 in
set_option maxHeartbeats 4000000 in
theorem totext1 (k n : Int) (s : ByteArray) (w : World) :
  Calls Tryz.prog 100 #[.agg #[.int .u8 k,.int .i64 n,.string s]] w fun e w' => ∃ r,e = .returned (.map (some r)) ∧ w'.heap[r]? = some (.map (ttEs (.agg #[.int .u8 k,.int .i64 n,.string s])) 5) ∧ Below w.heap.size w w':=by
 have hmm:=@run_makeMap Tryz.prog
 have t0:=tt_0 (.agg #[.int .u8 k,.int .i64 n,.string s])
 have t1:=tt_1 (.agg #[.int .u8 k,.int .i64 n,.string s])
 have t2:=tt_2 (.agg #[.int .u8 k,.int .i64 n,.string s])
 have t3:=tt_3 (.agg #[.int .u8 k,.int .i64 n,.string s])
 have t4:=tt_4 (.agg #[.int .u8 k,.int .i64 n,.string s])
 obtain ⟨P,hP⟩ : ∃ P : Ending → World → Prop,(fun (e : Ending) (w' : World) => ∃ r,e = .returned (.map (some r)) ∧ w'.heap[r]? = some (.map (ttEs (.agg #[.int .u8 k,.int .i64 n,.string s])) 5) ∧ Below w.heap.size w w') = P:=⟨_,rfl⟩
 rw [hP]
 have HPP:=keep hP
 clear hP
 have H1:=Lib.hid (((Ok.start w).alloc w.heap.size 129 [.int .u8 k,.int .i64 n,.string s] rfl).alloc (w.heap.size + 1) 129 [.int .u8 3,.int .i64 0,.string ⟨#[]⟩] (by simp))
 go_enter Tryz.func100,Tryz.ntmps100
 go_upto_region 2 with fail
 generalize ((w.alloc (.cells #[.int .u8 k,.int .i64 n,.string s] 129)).alloc (.cells #[.int .u8 3,.int .i64 0,.string ⟨#[]⟩] 129)) = W2 at H1 ⊢
 have F3:=H1.out.sees
 simp only [sees,kBlk,cellsAt,Nat.reduceAdd] at F3
 obtain ⟨⟨z0,c0_0,c0_1,c0_2,-⟩,⟨z1,c1_0,c1_1,c1_2,-⟩,-⟩:=F3
 go_wp2_with fail
 first
  | go_ret
  | skip
 rw [← HPP.out]
 exact ⟨_,rfl,heap_of_alloc _ _,(H1.out.alloc_obj _).bel⟩
set_option maxRecDepth 100000 in
set_option maxHeartbeats 4000000 in
theorem val_word1 (s : ByteArray) (w : World) :
  Calls Tryz.prog 103 #[.agg #[.int .u8 2,.int .i64 1,.string s]] w fun e w' => e = .returned (.agg #[.int .u8 3,.int .i64 0,.string ⟨#[84,82,85,69]⟩]) ∧ Below w.heap.size w w':=by
 have H1:=Lib.hid (((Ok.start w).alloc w.heap.size 129 [.int .u8 2,.int .i64 1,.string s] rfl).var (w.heap.size + 1) 35 [.int .u8 3,.int .i64 0,.string ⟨#[84,82,85,69]⟩] (by simp))
 go_enter Tryz.func103,Tryz.ntmps103
 go_wp2_with fail
 generalize ((w.alloc (.cells #[.int .u8 2,.int .i64 1,.string s] 129)).alloc (.cells #[.int .u8 3,.int .i64 0,.string ⟨#[84,82,85,69]⟩] 35)) = W2 at H1 ⊢
 have F3:=H1.out.sees
 simp only [sees,kBlk,kVar,cellsAt,Nat.reduceAdd] at F3
 obtain ⟨⟨⟨z0,fz0⟩,c0_0,c0_1,c0_2,-⟩,⟨z1,c1_0,c1_1,c1_2,-⟩,-⟩:=F3
 exact bodyPost_ret (v:=.agg #[.int .u8 3,.int .i64 0,.string ⟨#[84,82,85,69]⟩]) (by simp [results,Tryz.results103,go_sem,c0_0,c0_1,c0_2]) rfl ⟨rfl,H1.out.bel⟩
set_option maxRecDepth 100000 in
set_option maxHeartbeats 4000000 in
theorem val_word0 (s : ByteArray) (w : World) :
  Calls Tryz.prog 103 #[.agg #[.int .u8 2,.int .i64 0,.string s]] w fun e w' => e = .returned (.agg #[.int .u8 3,.int .i64 0,.string ⟨#[70,65,76,83,69]⟩]) ∧ Below w.heap.size w w':=by
 have H1:=Lib.hid (((Ok.start w).alloc w.heap.size 129 [.int .u8 2,.int .i64 0,.string s] rfl).var (w.heap.size + 1) 35 [.int .u8 3,.int .i64 0,.string ⟨#[70,65,76,83,69]⟩] (by simp))
 go_enter Tryz.func103,Tryz.ntmps103
 go_wp2_with fail
 generalize ((w.alloc (.cells #[.int .u8 2,.int .i64 0,.string s] 129)).alloc (.cells #[.int .u8 3,.int .i64 0,.string ⟨#[70,65,76,83,69]⟩] 35)) = W2 at H1 ⊢
 have F3:=H1.out.sees
 simp only [sees,kBlk,kVar,cellsAt,Nat.reduceAdd] at F3
 obtain ⟨⟨⟨z0,fz0⟩,c0_0,c0_1,c0_2,-⟩,⟨z1,c1_0,c1_1,c1_2,-⟩,-⟩:=F3
 exact bodyPost_ret (v:=.agg #[.int .u8 3,.int .i64 0,.string ⟨#[70,65,76,83,69]⟩]) (by simp [results,Tryz.results103,go_sem,c0_0,c0_1,c0_2]) rfl ⟨rfl,H1.out.bel⟩
set_option maxRecDepth 100000 in
set_option maxHeartbeats 4000000 in
theorem conv_20 (hv : valE 2 0 [] = 0) (w : World) :
  Calls Tryz.prog 99 #[.agg #[.int .u8 2,.int .i64 0,.string ⟨#[]⟩],.func (.func 100) #[] #[]] w fun e w' => e = .returned (.agg #[.int .u8 3,.int .i64 0,.string ⟨#[70,65,76,83,69]⟩]) ∧ Below w.heap.size w w':=by
 have HVE:=keep hv
 clear hv
 have H1:=Lib.hid (((Ok.start w).alloc w.heap.size 35 [.int .u8 2,.int .i64 0,.string ⟨#[]⟩] rfl).var (w.heap.size + 1) 35 [.int .u8 0,.int .i64 0,.string ⟨#[]⟩] (by simp))
 go_enter Tryz.func99,Tryz.ntmps99
 go_upto_region 1 with fail
 generalize ((w.alloc (.cells #[.int .u8 2,.int .i64 0,.string ⟨#[]⟩] 35)).alloc (.cells #[.int .u8 0,.int .i64 0,.string ⟨#[]⟩] 35)) = W2 at H1 ⊢
 refine wp_region_held_drew (S:=fun W => Ok w [kVar (w.heap.size + 1) 35 [.int .u8 0,.int .i64 0,.string ⟨#[]⟩],kBlk (w.heap.size) 35 [.int .u8 2,.int .i64 0,.string ⟨#[]⟩]] W) (by kernel_rfl) H1.out.drew (fun hHeld => ?_)
 have H3:=Lib.hid H1.out.drew
 clear H1
 generalize W2.drew = W4 at hHeld H3 ⊢
 refine wtg (i:=0) (v:=?a1) rfl ?b1 (by assumption) ?c1
 case b1 => (intro w hSw; have F:=Ok.sees hSw; clear hSw; simp only [sees,kBlk,kVar,cellsAt,Nat.reduceAdd] at F; go_simp; try with_reducible rfl)
 try simp only [Act.put,wp1,wp2,wp3,wp4,wp6]
 refine wtg (i:=1) (v:=?a3) rfl ?b3 (by assumption) ?c3
 case b3 => (intro w hSw; have F:=Ok.sees hSw; clear hSw; simp only [sees,kBlk,kVar,cellsAt,Nat.reduceAdd] at F; go_simp; try with_reducible rfl)
 try simp only [Act.put,wp1,wp2,wp3,wp4,wp5,wp6]
 refine wtg (i:=3) (v:=?a5) rfl ?b5 (by assumption) ?c5
 case b5 => (intro w hSw; have F:=Ok.sees hSw; clear hSw; simp only [sees,kBlk,kVar,cellsAt,Nat.reduceAdd] at F; go_simp; try with_reducible rfl)
 try simp only [Act.put,wp1,wp2,wp3,wp4,wp5,wp6]
 refine wtg (i:=4) (v:=?a7) rfl ?b7 (by assumption) ?c7
 case b7 => (intro w hSw; have F:=Ok.sees hSw; clear hSw; simp only [sees,kBlk,kVar,cellsAt,Nat.reduceAdd] at F; go_simp; try with_reducible rfl)
 try simp only [Act.put,wp1,wp2,wp3,wp4,wp5,wp6]
 refine wpAnyH_ready (rs:=[2]) (by kernel_rfl) (by simp) ?_
 refine AllReadyH.cons rfl (fun K hK => ?_) AllReadyH.nil
 go_simp
 refine (totext1 2 0 ⟨#[]⟩ _).mono ?_
 rintro e w5 ⟨r,rfl,hr,hb6⟩
 go_wp2_with fail
 have H7:=Lib.hid (H3.out.below hb6)
 clear hb6 H3
 have hlk:=look_ok (i:=2) _ _ _ _ tt_map tt_key hr (.int .u8 2) (.func (.func 103) #[.agg #[.int .u8 2,.int .i64 0,.string ⟨#[]⟩]] #[]) (by simp [MapKept.IsKey]) rfl
 have HR:=keep hr
 clear hr
 refine hK.out _ _ (H7.out) (fun hHeld => ?_)
 clear hK K
 try simp only [Act.put,wp1,wp2,wp3,wp4,wp5,wp6]
 refine wpAnyH_ready (rs:=[5]) (by kernel_rfl) (by simp) ?_
 refine AllReadyH.cons rfl (fun K hK => ?_) AllReadyH.nil
 go_simp
 go_wp2_with fail
 clear hlk HR
 refine hK.out _ _ (H7.out) (fun hHeld => ?_)
 clear hK K
 try simp only [Act.put,wp1,wp2,wp3,wp4,wp5,wp6]
 refine wtg (i:=6) (v:=?a11) rfl ?b11 (by assumption) ?c11
 case b11 => (intro w hSw; have F:=Ok.sees hSw; clear hSw; simp only [sees,kBlk,kVar,cellsAt,Nat.reduceAdd] at F; go_simp; try with_reducible rfl)
 try simp only [Act.put,wp1,wp2,wp3,wp4,wp5,wp6]
 refine wtg (i:=7) (v:=?a13) rfl ?b13 (by assumption) ?c13
 case b13 => (intro w hSw; have F:=Ok.sees hSw; clear hSw; simp only [sees,kBlk,kVar,cellsAt,Nat.reduceAdd] at F; go_simp; try with_reducible rfl)
 try simp only [Act.put,wp1,wp2,wp3,wp4,wp5,wp6]
 refine wtg (i:=8) (v:=?a15) rfl ?b15 (by assumption) ?c15
 case b15 => (intro w hSw; have F:=Ok.sees hSw; clear hSw; simp only [sees,kBlk,kVar,cellsAt,Nat.reduceAdd] at F; go_simp; try with_reducible rfl)
 try simp only [Act.put,wp1,wp2,wp3,wp4,wp5,wp6]
 refine wtg (i:=9) (v:=?a17) rfl ?b17 (by assumption) ?c17
 case b17 => (intro w hSw; have F:=Ok.sees hSw; clear hSw; simp only [sees,kBlk,kVar,cellsAt,Nat.reduceAdd] at F; go_simp; try with_reducible rfl)
 try simp only [Act.put,wp1,wp2,wp3,wp4,wp5,wp6]
 refine wtg (i:=10) (v:=?a19) rfl ?b19 (by assumption) ?c19
 case b19 => (intro w hSw; have F:=Ok.sees hSw; clear hSw; simp only [sees,kBlk,kVar,cellsAt,Nat.reduceAdd] at F; go_simp; try with_reducible rfl)
 try simp only [Act.put,wp1,wp2,wp3,wp4,wp5,wp6]
 refine wpAnyH_done (by kernel_rfl) ?_ _
 clear hHeld
 have F8:=H7.out.sees
 simp only [sees,kBlk,kVar,cellsAt,Nat.reduceAdd] at F8
 obtain ⟨⟨⟨z0,fz0⟩,c0_0,c0_1,c0_2,-⟩,⟨z1,c1_0,c1_1,c1_2,-⟩,-⟩:=F8
 go_wp2_with fail
 refine (val_Check 2 0 ⟨#[]⟩ (by first | exact HSZ.out | decide) _).mono ?_
 rintro e w9 ⟨rfl,hb10⟩
 rw [HVE.out]
 clear z0 fz0 c0_0 c0_1 c0_2 z1 c1_0 c1_1 c1_2
 have H11:=Lib.hid (H7.out.below hb10)
 clear hb10 H7
 have F12:=H11.out.sees
 simp only [sees,kBlk,kVar,cellsAt,Nat.reduceAdd] at F12
 obtain ⟨⟨⟨z0,fz0⟩,c0_0,c0_1,c0_2,-⟩,⟨z1,c1_0,c1_1,c1_2,-⟩,-⟩:=F12
 go_wp2_with fail
 refine (val_word0 ⟨#[]⟩ _).mono ?_
 rintro e w13 ⟨rfl,hb14⟩
 clear z0 fz0 c0_0 c0_1 c0_2 z1 c1_0 c1_1 c1_2
 have H15:=Lib.hid (H11.out.below hb14)
 clear hb14 H11
 have F16:=H15.out.sees
 simp only [sees,kBlk,kVar,cellsAt,Nat.reduceAdd] at F16
 obtain ⟨⟨⟨z0,fz0⟩,c0_0,c0_1,c0_2,-⟩,⟨z1,c1_0,c1_1,c1_2,-⟩,-⟩:=F16
 go_wp2_with fail
 have hfar : ∀ x ∈ [kBlk (w.heap.size) 35 [.int .u8 2,.int .i64 0,.string ⟨#[]⟩]],x.far (some (w.heap.size + 1)):=by
  intro x hx
  rw [List.mem_singleton] at hx
  subst hx
  show some w.heap.size ≠ some (w.heap.size + 1)
  simp
 have HE:=Lib.hid (((H15.out.set_ (i:=0) (u:=.int .u8 3) (by omega) hfar).set_ (i:=1) (u:=.int .i64 0) (by omega) hfar).set_ (i:=2) (u:=.string ⟨#[70,65,76,83,69]⟩) (by omega) hfar)
 have F9:=HE.out.sees
 simp only [sees,kVar,kBlk,cellsAt,Nat.reduceAdd,List.set_cons_succ,List.set_cons_zero] at F9
 obtain ⟨⟨⟨y0,g0⟩,r0,r1,r2,-⟩,-⟩:=F9
 exact bodyPost_ret (v:=.agg #[.int .u8 3,.int .i64 0,.string ⟨#[70,65,76,83,69]⟩]) (by simp [results,Tryz.results99,go_sem,r0,r1,r2]) rfl ⟨rfl,HE.out.bel⟩
set_option maxRecDepth 100000 in
set_option maxHeartbeats 4000000 in
theorem conv_21 (hv : valE 2 1 [] = 0) (w : World) :
  Calls Tryz.prog 99 #[.agg #[.int .u8 2,.int .i64 1,.string ⟨#[]⟩],.func (.func 100) #[] #[]] w fun e w' => e = .returned (.agg #[.int .u8 3,.int .i64 0,.string ⟨#[84,82,85,69]⟩]) ∧ Below w.heap.size w w':=by
 have HVE:=keep hv
 clear hv
 have H1:=Lib.hid (((Ok.start w).alloc w.heap.size 35 [.int .u8 2,.int .i64 1,.string ⟨#[]⟩] rfl).var (w.heap.size + 1) 35 [.int .u8 0,.int .i64 0,.string ⟨#[]⟩] (by simp))
 go_enter Tryz.func99,Tryz.ntmps99
 go_upto_region 1 with fail
 generalize ((w.alloc (.cells #[.int .u8 2,.int .i64 1,.string ⟨#[]⟩] 35)).alloc (.cells #[.int .u8 0,.int .i64 0,.string ⟨#[]⟩] 35)) = W2 at H1 ⊢
 refine wp_region_held_drew (S:=fun W => Ok w [kVar (w.heap.size + 1) 35 [.int .u8 0,.int .i64 0,.string ⟨#[]⟩],kBlk (w.heap.size) 35 [.int .u8 2,.int .i64 1,.string ⟨#[]⟩]] W) (by kernel_rfl) H1.out.drew (fun hHeld => ?_)
 have H3:=Lib.hid H1.out.drew
 clear H1
 generalize W2.drew = W4 at hHeld H3 ⊢
 refine wtg (i:=0) (v:=?a21) rfl ?b21 (by assumption) ?c21
 case b21 => (intro w hSw; have F:=Ok.sees hSw; clear hSw; simp only [sees,kBlk,kVar,cellsAt,Nat.reduceAdd] at F; go_simp; try with_reducible rfl)
 try simp only [Act.put,wp1,wp2,wp3,wp4,wp6]
 refine wtg (i:=1) (v:=?a23) rfl ?b23 (by assumption) ?c23
 case b23 => (intro w hSw; have F:=Ok.sees hSw; clear hSw; simp only [sees,kBlk,kVar,cellsAt,Nat.reduceAdd] at F; go_simp; try with_reducible rfl)
 try simp only [Act.put,wp1,wp2,wp3,wp4,wp5,wp6]
 refine wtg (i:=3) (v:=?a25) rfl ?b25 (by assumption) ?c25
 case b25 => (intro w hSw; have F:=Ok.sees hSw; clear hSw; simp only [sees,kBlk,kVar,cellsAt,Nat.reduceAdd] at F; go_simp; try with_reducible rfl)
 try simp only [Act.put,wp1,wp2,wp3,wp4,wp5,wp6]
 refine wtg (i:=4) (v:=?a27) rfl ?b27 (by assumption) ?c27
 case b27 => (intro w hSw; have F:=Ok.sees hSw; clear hSw; simp only [sees,kBlk,kVar,cellsAt,Nat.reduceAdd] at F; go_simp; try with_reducible rfl)
 try simp only [Act.put,wp1,wp2,wp3,wp4,wp5,wp6]
 refine wpAnyH_ready (rs:=[2]) (by kernel_rfl) (by simp) ?_
 refine AllReadyH.cons rfl (fun K hK => ?_) AllReadyH.nil
 go_simp
 refine (totext1 2 1 ⟨#[]⟩ _).mono ?_
 rintro e w5 ⟨r,rfl,hr,hb6⟩
 go_wp2_with fail
 have H7:=Lib.hid (H3.out.below hb6)
 clear hb6 H3
 have hlk:=look_ok (i:=2) _ _ _ _ tt_map tt_key hr (.int .u8 2) (.func (.func 103) #[.agg #[.int .u8 2,.int .i64 1,.string ⟨#[]⟩]] #[]) (by simp [MapKept.IsKey]) rfl
 have HR:=keep hr
 clear hr
 refine hK.out _ _ (H7.out) (fun hHeld => ?_)
 clear hK K
 try simp only [Act.put,wp1,wp2,wp3,wp4,wp5,wp6]
 refine wpAnyH_ready (rs:=[5]) (by kernel_rfl) (by simp) ?_
 refine AllReadyH.cons rfl (fun K hK => ?_) AllReadyH.nil
 go_simp
 go_wp2_with fail
 clear hlk HR
 refine hK.out _ _ (H7.out) (fun hHeld => ?_)
 clear hK K
 try simp only [Act.put,wp1,wp2,wp3,wp4,wp5,wp6]
 refine wtg (i:=6) (v:=?a31) rfl ?b31 (by assumption) ?c31
 case b31 => (intro w hSw; have F:=Ok.sees hSw; clear hSw; simp only [sees,kBlk,kVar,cellsAt,Nat.reduceAdd] at F; go_simp; try with_reducible rfl)
 try simp only [Act.put,wp1,wp2,wp3,wp4,wp5,wp6]
 refine wtg (i:=7) (v:=?a33) rfl ?b33 (by assumption) ?c33
 case b33 => (intro w hSw; have F:=Ok.sees hSw; clear hSw; simp only [sees,kBlk,kVar,cellsAt,Nat.reduceAdd] at F; go_simp; try with_reducible rfl)
 try simp only [Act.put,wp1,wp2,wp3,wp4,wp5,wp6]
 refine wtg (i:=8) (v:=?a35) rfl ?b35 (by assumption) ?c35
 case b35 => (intro w hSw; have F:=Ok.sees hSw; clear hSw; simp only [sees,kBlk,kVar,cellsAt,Nat.reduceAdd] at F; go_simp; try with_reducible rfl)
 try simp only [Act.put,wp1,wp2,wp3,wp4,wp5,wp6]
 refine wtg (i:=9) (v:=?a37) rfl ?b37 (by assumption) ?c37
 case b37 => (intro w hSw; have F:=Ok.sees hSw; clear hSw; simp only [sees,kBlk,kVar,cellsAt,Nat.reduceAdd] at F; go_simp; try with_reducible rfl)
 try simp only [Act.put,wp1,wp2,wp3,wp4,wp5,wp6]
 refine wtg (i:=10) (v:=?a39) rfl ?b39 (by assumption) ?c39
 case b39 => (intro w hSw; have F:=Ok.sees hSw; clear hSw; simp only [sees,kBlk,kVar,cellsAt,Nat.reduceAdd] at F; go_simp; try with_reducible rfl)
 try simp only [Act.put,wp1,wp2,wp3,wp4,wp5,wp6]
 refine wpAnyH_done (by kernel_rfl) ?_ _
 clear hHeld
 have F8:=H7.out.sees
 simp only [sees,kBlk,kVar,cellsAt,Nat.reduceAdd] at F8
 obtain ⟨⟨⟨z0,fz0⟩,c0_0,c0_1,c0_2,-⟩,⟨z1,c1_0,c1_1,c1_2,-⟩,-⟩:=F8
 go_wp2_with fail
 refine (val_Check 2 1 ⟨#[]⟩ (by first | exact HSZ.out | decide) _).mono ?_
 rintro e w9 ⟨rfl,hb10⟩
 rw [HVE.out]
 clear z0 fz0 c0_0 c0_1 c0_2 z1 c1_0 c1_1 c1_2
 have H11:=Lib.hid (H7.out.below hb10)
 clear hb10 H7
 have F12:=H11.out.sees
 simp only [sees,kBlk,kVar,cellsAt,Nat.reduceAdd] at F12
 obtain ⟨⟨⟨z0,fz0⟩,c0_0,c0_1,c0_2,-⟩,⟨z1,c1_0,c1_1,c1_2,-⟩,-⟩:=F12
 go_wp2_with fail
 refine (val_word1 ⟨#[]⟩ _).mono ?_
 rintro e w13 ⟨rfl,hb14⟩
 clear z0 fz0 c0_0 c0_1 c0_2 z1 c1_0 c1_1 c1_2
 have H15:=Lib.hid (H11.out.below hb14)
 clear hb14 H11
 have F16:=H15.out.sees
 simp only [sees,kBlk,kVar,cellsAt,Nat.reduceAdd] at F16
 obtain ⟨⟨⟨z0,fz0⟩,c0_0,c0_1,c0_2,-⟩,⟨z1,c1_0,c1_1,c1_2,-⟩,-⟩:=F16
 go_wp2_with fail
 have hfar : ∀ x ∈ [kBlk (w.heap.size) 35 [.int .u8 2,.int .i64 1,.string ⟨#[]⟩]],x.far (some (w.heap.size + 1)):=by
  intro x hx
  rw [List.mem_singleton] at hx
  subst hx
  show some w.heap.size ≠ some (w.heap.size + 1)
  simp
 have HE:=Lib.hid (((H15.out.set_ (i:=0) (u:=.int .u8 3) (by omega) hfar).set_ (i:=1) (u:=.int .i64 0) (by omega) hfar).set_ (i:=2) (u:=.string ⟨#[84,82,85,69]⟩) (by omega) hfar)
 have F9:=HE.out.sees
 simp only [sees,kVar,kBlk,cellsAt,Nat.reduceAdd,List.set_cons_succ,List.set_cons_zero] at F9
 obtain ⟨⟨⟨y0,g0⟩,r0,r1,r2,-⟩,-⟩:=F9
 exact bodyPost_ret (v:=.agg #[.int .u8 3,.int .i64 0,.string ⟨#[84,82,85,69]⟩]) (by simp [results,Tryz.results99,go_sem,r0,r1,r2]) rfl ⟨rfl,HE.out.bel⟩
set_option maxRecDepth 100000 in
set_option maxHeartbeats 4000000 in
theorem totext_20 (hv : valE 2 0 [] = 0) (w : World) :
  Calls Tryz.prog 66 #[.agg #[.int .u8 2,.int .i64 0,.string ⟨#[]⟩]] w fun e w' => e = .returned (.agg #[.int .u8 3,.int .i64 0,.string ⟨#[70,65,76,83,69]⟩]) ∧ Below w.heap.size w w':=by
 have HVE:=keep hv
 clear hv
 have H1:=Lib.hid (((Ok.start w).alloc w.heap.size 35 [.int .u8 2,.int .i64 0,.string ⟨#[]⟩] rfl).var (w.heap.size + 1) 35 [.int .u8 0,.int .i64 0,.string ⟨#[]⟩] (by simp))
 go_enter Tryz.func66,Tryz.ntmps66
 go_wp2_with fail
 generalize ((w.alloc (.cells #[.int .u8 2,.int .i64 0,.string ⟨#[]⟩] 35)).alloc (.cells #[.int .u8 0,.int .i64 0,.string ⟨#[]⟩] 35)) = W2 at H1 ⊢
 have F3:=H1.out.sees
 simp only [sees,kBlk,kVar,cellsAt,Nat.reduceAdd] at F3
 obtain ⟨⟨⟨z0,fz0⟩,c0_0,c0_1,c0_2,-⟩,⟨z1,c1_0,c1_1,c1_2,-⟩,-⟩:=F3
 refine (conv_20 HVE.out _).mono ?_
 rintro e w4 ⟨rfl,hb5⟩
 clear z0 fz0 c0_0 c0_1 c0_2 z1 c1_0 c1_1 c1_2
 have H6:=Lib.hid (H1.out.below hb5)
 clear hb5 H1
 have F7:=H6.out.sees
 simp only [sees,kBlk,kVar,cellsAt,Nat.reduceAdd] at F7
 obtain ⟨⟨⟨z0,fz0⟩,c0_0,c0_1,c0_2,-⟩,⟨z1,c1_0,c1_1,c1_2,-⟩,-⟩:=F7
 go_wp2_with fail
 have hfar : ∀ x ∈ [kBlk (w.heap.size) 35 [.int .u8 2,.int .i64 0,.string ⟨#[]⟩]],x.far (some (w.heap.size + 1)):=by
  intro x hx
  rw [List.mem_singleton] at hx
  subst hx
  show some w.heap.size ≠ some (w.heap.size + 1)
  simp
 have HE:=Lib.hid (((H6.out.set_ (i:=0) (u:=.int .u8 3) (by omega) hfar).set_ (i:=1) (u:=.int .i64 0) (by omega) hfar).set_ (i:=2) (u:=.string ⟨#[70,65,76,83,69]⟩) (by omega) hfar)
 have F9:=HE.out.sees
 simp only [sees,kVar,kBlk,cellsAt,Nat.reduceAdd,List.set_cons_succ,List.set_cons_zero] at F9
 obtain ⟨⟨⟨y0,g0⟩,r0,r1,r2,-⟩,-⟩:=F9
 exact bodyPost_ret (v:=.agg #[.int .u8 3,.int .i64 0,.string ⟨#[70,65,76,83,69]⟩]) (by simp [results,Tryz.results66,go_sem,r0,r1,r2]) rfl ⟨rfl,HE.out.bel⟩
set_option maxRecDepth 100000 in
set_option maxHeartbeats 4000000 in
theorem totext_21 (hv : valE 2 1 [] = 0) (w : World) :
  Calls Tryz.prog 66 #[.agg #[.int .u8 2,.int .i64 1,.string ⟨#[]⟩]] w fun e w' => e = .returned (.agg #[.int .u8 3,.int .i64 0,.string ⟨#[84,82,85,69]⟩]) ∧ Below w.heap.size w w':=by
 have HVE:=keep hv
 clear hv
 have H1:=Lib.hid (((Ok.start w).alloc w.heap.size 35 [.int .u8 2,.int .i64 1,.string ⟨#[]⟩] rfl).var (w.heap.size + 1) 35 [.int .u8 0,.int .i64 0,.string ⟨#[]⟩] (by simp))
 go_enter Tryz.func66,Tryz.ntmps66
 go_wp2_with fail
 generalize ((w.alloc (.cells #[.int .u8 2,.int .i64 1,.string ⟨#[]⟩] 35)).alloc (.cells #[.int .u8 0,.int .i64 0,.string ⟨#[]⟩] 35)) = W2 at H1 ⊢
 have F3:=H1.out.sees
 simp only [sees,kBlk,kVar,cellsAt,Nat.reduceAdd] at F3
 obtain ⟨⟨⟨z0,fz0⟩,c0_0,c0_1,c0_2,-⟩,⟨z1,c1_0,c1_1,c1_2,-⟩,-⟩:=F3
 refine (conv_21 HVE.out _).mono ?_
 rintro e w4 ⟨rfl,hb5⟩
 clear z0 fz0 c0_0 c0_1 c0_2 z1 c1_0 c1_1 c1_2
 have H6:=Lib.hid (H1.out.below hb5)
 clear hb5 H1
 have F7:=H6.out.sees
 simp only [sees,kBlk,kVar,cellsAt,Nat.reduceAdd] at F7
 obtain ⟨⟨⟨z0,fz0⟩,c0_0,c0_1,c0_2,-⟩,⟨z1,c1_0,c1_1,c1_2,-⟩,-⟩:=F7
 go_wp2_with fail
 have hfar : ∀ x ∈ [kBlk (w.heap.size) 35 [.int .u8 2,.int .i64 1,.string ⟨#[]⟩]],x.far (some (w.heap.size + 1)):=by
  intro x hx
  rw [List.mem_singleton] at hx
  subst hx
  show some w.heap.size ≠ some (w.heap.size + 1)
  simp
 have HE:=Lib.hid (((H6.out.set_ (i:=0) (u:=.int .u8 3) (by omega) hfar).set_ (i:=1) (u:=.int .i64 0) (by omega) hfar).set_ (i:=2) (u:=.string ⟨#[84,82,85,69]⟩) (by omega) hfar)
 have F9:=HE.out.sees
 simp only [sees,kVar,kBlk,cellsAt,Nat.reduceAdd,List.set_cons_succ,List.set_cons_zero] at F9
 obtain ⟨⟨⟨y0,g0⟩,r0,r1,r2,-⟩,-⟩:=F9
 exact bodyPost_ret (v:=.agg #[.int .u8 3,.int .i64 0,.string ⟨#[84,82,85,69]⟩]) (by simp [results,Tryz.results66,go_sem,r0,r1,r2]) rfl ⟨rfl,HE.out.bel⟩
theorem field_text (a b : Value) (x : ByteArray) (w : World) : (Instr.field 35 (.agg #[a,b,.string x]) 2).run Tryz.prog w = .ok (.string x) w:=by kernel_rfl
set_option maxRecDepth 100000 in
set_option maxHeartbeats 4000000 in
theorem show_20 (hv : valE 2 0 [] = 0) (w : World) :
  Calls Tryz.prog 35 #[.agg #[.int .u8 2,.int .i64 0,.string ⟨#[]⟩]] w fun e w' => e = .returned (.string ⟨#[70,65,76,83,69]⟩) ∧ Below w.heap.size w w':=by
 have HVE:=keep hv
 clear hv
 have hq : eq3 2 0 4 7 [] [] = false:=by
  cases h : eq3 2 0 4 7 [] [] with
  | false => rfl
  | true => exact absurd ((eq3_iff ..).1 h).1 (by decide)
 have hft:=field_text (.int .u8 3) (.int .i64 0)
 have H1:=Lib.hid ((Ok.start w).alloc w.heap.size 35 [.int .u8 2,.int .i64 0,.string ⟨#[]⟩] rfl)
 go_enter Tryz.func35,Tryz.ntmps35
 go_wp2_with fail
 generalize (w.alloc (.cells #[.int .u8 2,.int .i64 0,.string ⟨#[]⟩] 35)) = W2 at H1 ⊢
 refine wp_region_held_drew (S:=fun W => Ok w [kBlk (w.heap.size) 35 [.int .u8 2,.int .i64 0,.string ⟨#[]⟩]] W) (by kernel_rfl) H1.out.drew (fun hHeld => ?_)
 refine wtg (i:=0) (v:=?a41) rfl ?b41 (by assumption) ?c41
 case b41 => (intro w hSw; have F:=Ok.sees hSw; clear hSw; simp only [sees,kBlk,cellsAt,Nat.reduceAdd] at F; go_simp; try with_reducible rfl)
 try simp only [Act.put,wp1,wp2,wp3,wp4,wp6]
 refine wpAnyH_ready (rs:=[1]) (by kernel_rfl) (by simp) ?_
 refine AllReadyH.cons rfl (fun K hK => ?_) AllReadyH.nil
 go_simp
 refine (fail_code 7 (by decide) (by decide) _).mono ?_
 rintro e w4 ⟨rfl,hb5⟩
 go_wp2_with fail
 refine hK.out _ _ (hHeld.below hb5) (fun hHeld => ?_)
 clear hK K
 try simp only [Act.put,wp1,wp2,wp3,wp4,wp5,wp6]
 refine wtg (i:=2) (v:=?a44) rfl ?b44 (by assumption) ?c44
 case b44 => (intro w hSw; have F:=Ok.sees hSw; clear hSw; simp only [sees,kBlk,cellsAt,Nat.reduceAdd] at F; go_simp; try with_reducible rfl)
 try simp only [Act.put,wp1,wp2,wp3,wp4,wp5,wp6]
 refine wtg (i:=3) (v:=?a46) rfl ?b46 (by assumption) ?c46
 case b46 => (intro w hSw; have F:=Ok.sees hSw; clear hSw; simp only [sees,kBlk,cellsAt,Nat.reduceAdd] at F; go_simp; try with_reducible rfl)
 try simp only [Act.put,wp1,wp2,wp3,wp4,wp5,wp6]
 refine wtg (i:=4) (v:=?a48) rfl ?b48 (by assumption) ?c48
 case b48 => (intro w hSw; have F:=Ok.sees hSw; clear hSw; simp only [sees,kBlk,cellsAt,Nat.reduceAdd] at F; go_simp; try with_reducible rfl)
 try simp only [Act.put,wp1,wp2,wp3,wp4,wp5,wp6]
 refine wtg (i:=5) (v:=?a50) rfl ?b50 (by assumption) ?c50
 case b50 => (intro w hSw; have F:=Ok.sees hSw; clear hSw; simp only [sees,kBlk,cellsAt,Nat.reduceAdd] at F; go_simp; try with_reducible rfl)
 try simp only [Act.put,wp1,wp2,wp3,wp4,wp5,wp6]
 refine wtg (i:=6) (v:=?a52) rfl ?b52 (by assumption) ?c52
 case b52 => (intro w hSw; have F:=Ok.sees hSw; clear hSw; simp only [sees,kBlk,cellsAt,Nat.reduceAdd] at F; go_simp; try with_reducible rfl)
 try simp only [Act.put,wp1,wp2,wp3,wp4,wp5,wp6]
 refine wtg (i:=7) (v:=?a54) rfl ?b54 (by assumption) ?c54
 case b54 => (intro w hSw; have F:=Ok.sees hSw; clear hSw; simp only [sees,kBlk,cellsAt,Nat.reduceAdd] at F; go_simp; try with_reducible rfl)
 try simp only [Act.put,wp1,wp2,wp3,wp4,wp5,wp6]
 refine wsg (i:=8) rfl (by assumption) ?_
 try simp only [Act.put,wp1,wp2,wp3,wp4,wp5,wp6]
 refine wsg (i:=9) rfl (by assumption) ?_
 try simp only [Act.put,wp1,wp2,wp3,wp4,wp5,wp6]
 refine wsg (i:=10) rfl (by assumption) ?_
 try simp only [Act.put,wp1,wp2,wp3,wp4,wp5,wp6]
 refine wtg (i:=11) (v:=?a62) rfl ?b62 (by assumption) ?c62
 case b62 => (intro w hSw; have F:=Ok.sees hSw; clear hSw; simp only [sees,kBlk,cellsAt,Nat.reduceAdd] at F; go_simp; try with_reducible rfl)
 try simp only [Act.put,wp1,wp2,wp3,wp4,wp5,wp6]
 refine wtg (i:=12) (v:=?a64) rfl ?b64 (by assumption) ?c64
 case b64 => (intro w hSw; have F:=Ok.sees hSw; clear hSw; simp only [sees,kBlk,cellsAt,Nat.reduceAdd] at F; go_simp; try with_reducible rfl)
 try simp only [Act.put,wp1,wp2,wp3,wp4,wp5,wp6]
 refine wpAnyH_done (by kernel_rfl) ?_ _
 clear H1
 have H6:=Lib.hid hHeld
 clear hHeld
 have F7:=H6.out.sees
 simp only [sees,kBlk,cellsAt,Nat.reduceAdd] at F7
 obtain ⟨⟨z0,c0_0,c0_1,c0_2,-⟩,-⟩:=F7
 go_wp2_with fail
 refine (val_Check 2 0 ⟨#[]⟩ (by first | exact HSZ.out | decide) _).mono ?_
 rintro e w8 ⟨rfl,hb9⟩
 rw [HVE.out]
 clear z0 c0_0 c0_1 c0_2
 have H10:=Lib.hid (H6.out.below hb9)
 clear hb9 H6
 have F11:=H10.out.sees
 simp only [sees,kBlk,cellsAt,Nat.reduceAdd] at F11
 obtain ⟨⟨z0,c0_0,c0_1,c0_2,-⟩,-⟩:=F11
 go_wp2_with fail
 refine (totext_20 HVE.out _).mono ?_
 rintro e w12 ⟨rfl,hb13⟩
 clear z0 c0_0 c0_1 c0_2
 have H14:=Lib.hid (H10.out.below hb13)
 clear hb13 H10
 have F15:=H14.out.sees
 simp only [sees,kBlk,cellsAt,Nat.reduceAdd] at F15
 obtain ⟨⟨z0,c0_0,c0_1,c0_2,-⟩,-⟩:=F15
 go_wp2_with fail
 go_ret
 exact ⟨rfl,H14.out.bel⟩
set_option maxRecDepth 100000 in
set_option maxHeartbeats 4000000 in
theorem show_21 (hv : valE 2 1 [] = 0) (w : World) :
  Calls Tryz.prog 35 #[.agg #[.int .u8 2,.int .i64 1,.string ⟨#[]⟩]] w fun e w' => e = .returned (.string ⟨#[84,82,85,69]⟩) ∧ Below w.heap.size w w':=by
 have HVE:=keep hv
 clear hv
 have hq : eq3 2 1 4 7 [] [] = false:=by
  cases h : eq3 2 1 4 7 [] [] with
  | false => rfl
  | true => exact absurd ((eq3_iff ..).1 h).1 (by decide)
 have hft:=field_text (.int .u8 3) (.int .i64 0)
 have H1:=Lib.hid ((Ok.start w).alloc w.heap.size 35 [.int .u8 2,.int .i64 1,.string ⟨#[]⟩] rfl)
 go_enter Tryz.func35,Tryz.ntmps35
 go_wp2_with fail
 generalize (w.alloc (.cells #[.int .u8 2,.int .i64 1,.string ⟨#[]⟩] 35)) = W2 at H1 ⊢
 refine wp_region_held_drew (S:=fun W => Ok w [kBlk (w.heap.size) 35 [.int .u8 2,.int .i64 1,.string ⟨#[]⟩]] W) (by kernel_rfl) H1.out.drew (fun hHeld => ?_)
 refine wtg (i:=0) (v:=?a66) rfl ?b66 (by assumption) ?c66
 case b66 => (intro w hSw; have F:=Ok.sees hSw; clear hSw; simp only [sees,kBlk,cellsAt,Nat.reduceAdd] at F; go_simp; try with_reducible rfl)
 try simp only [Act.put,wp1,wp2,wp3,wp4,wp6]
 refine wpAnyH_ready (rs:=[1]) (by kernel_rfl) (by simp) ?_
 refine AllReadyH.cons rfl (fun K hK => ?_) AllReadyH.nil
 go_simp
 refine (fail_code 7 (by decide) (by decide) _).mono ?_
 rintro e w4 ⟨rfl,hb5⟩
 go_wp2_with fail
 refine hK.out _ _ (hHeld.below hb5) (fun hHeld => ?_)
 clear hK K
 try simp only [Act.put,wp1,wp2,wp3,wp4,wp5,wp6]
 refine wtg (i:=2) (v:=?a69) rfl ?b69 (by assumption) ?c69
 case b69 => (intro w hSw; have F:=Ok.sees hSw; clear hSw; simp only [sees,kBlk,cellsAt,Nat.reduceAdd] at F; go_simp; try with_reducible rfl)
 try simp only [Act.put,wp1,wp2,wp3,wp4,wp5,wp6]
 refine wtg (i:=3) (v:=?a71) rfl ?b71 (by assumption) ?c71
 case b71 => (intro w hSw; have F:=Ok.sees hSw; clear hSw; simp only [sees,kBlk,cellsAt,Nat.reduceAdd] at F; go_simp; try with_reducible rfl)
 try simp only [Act.put,wp1,wp2,wp3,wp4,wp5,wp6]
 refine wtg (i:=4) (v:=?a73) rfl ?b73 (by assumption) ?c73
 case b73 => (intro w hSw; have F:=Ok.sees hSw; clear hSw; simp only [sees,kBlk,cellsAt,Nat.reduceAdd] at F; go_simp; try with_reducible rfl)
 try simp only [Act.put,wp1,wp2,wp3,wp4,wp5,wp6]
 refine wtg (i:=5) (v:=?a75) rfl ?b75 (by assumption) ?c75
 case b75 => (intro w hSw; have F:=Ok.sees hSw; clear hSw; simp only [sees,kBlk,cellsAt,Nat.reduceAdd] at F; go_simp; try with_reducible rfl)
 try simp only [Act.put,wp1,wp2,wp3,wp4,wp5,wp6]
 refine wtg (i:=6) (v:=?a77) rfl ?b77 (by assumption) ?c77
 case b77 => (intro w hSw; have F:=Ok.sees hSw; clear hSw; simp only [sees,kBlk,cellsAt,Nat.reduceAdd] at F; go_simp; try with_reducible rfl)
 try simp only [Act.put,wp1,wp2,wp3,wp4,wp5,wp6]
 refine wtg (i:=7) (v:=?a79) rfl ?b79 (by assumption) ?c79
 case b79 => (intro w hSw; have F:=Ok.sees hSw; clear hSw; simp only [sees,kBlk,cellsAt,Nat.reduceAdd] at F; go_simp; try with_reducible rfl)
 try simp only [Act.put,wp1,wp2,wp3,wp4,wp5,wp6]
 refine wsg (i:=8) rfl (by assumption) ?_
 try simp only [Act.put,wp1,wp2,wp3,wp4,wp5,wp6]
 refine wsg (i:=9) rfl (by assumption) ?_
 try simp only [Act.put,wp1,wp2,wp3,wp4,wp5,wp6]
 refine wsg (i:=10) rfl (by assumption) ?_
 try simp only [Act.put,wp1,wp2,wp3,wp4,wp5,wp6]
 refine wtg (i:=11) (v:=?a87) rfl ?b87 (by assumption) ?c87
 case b87 => (intro w hSw; have F:=Ok.sees hSw; clear hSw; simp only [sees,kBlk,cellsAt,Nat.reduceAdd] at F; go_simp; try with_reducible rfl)
 try simp only [Act.put,wp1,wp2,wp3,wp4,wp5,wp6]
 refine wtg (i:=12) (v:=?a89) rfl ?b89 (by assumption) ?c89
 case b89 => (intro w hSw; have F:=Ok.sees hSw; clear hSw; simp only [sees,kBlk,cellsAt,Nat.reduceAdd] at F; go_simp; try with_reducible rfl)
 try simp only [Act.put,wp1,wp2,wp3,wp4,wp5,wp6]
 refine wpAnyH_done (by kernel_rfl) ?_ _
 clear H1
 have H6:=Lib.hid hHeld
 clear hHeld
 have F7:=H6.out.sees
 simp only [sees,kBlk,cellsAt,Nat.reduceAdd] at F7
 obtain ⟨⟨z0,c0_0,c0_1,c0_2,-⟩,-⟩:=F7
 go_wp2_with fail
 refine (val_Check 2 1 ⟨#[]⟩ (by first | exact HSZ.out | decide) _).mono ?_
 rintro e w8 ⟨rfl,hb9⟩
 rw [HVE.out]
 clear z0 c0_0 c0_1 c0_2
 have H10:=Lib.hid (H6.out.below hb9)
 clear hb9 H6
 have F11:=H10.out.sees
 simp only [sees,kBlk,cellsAt,Nat.reduceAdd] at F11
 obtain ⟨⟨z0,c0_0,c0_1,c0_2,-⟩,-⟩:=F11
 go_wp2_with fail
 refine (totext_21 HVE.out _).mono ?_
 rintro e w12 ⟨rfl,hb13⟩
 clear z0 c0_0 c0_1 c0_2
 have H14:=Lib.hid (H10.out.below hb13)
 clear hb13 H10
 have F15:=H14.out.sees
 simp only [sees,kBlk,cellsAt,Nat.reduceAdd] at F15
 obtain ⟨⟨z0,c0_0,c0_1,c0_2,-⟩,-⟩:=F15
 go_wp2_with fail
 go_ret
 exact ⟨rfl,H14.out.bel⟩
end Go.Proofs.YtlbigmlaokdmdaaGreatDoor
