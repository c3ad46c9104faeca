/- Chapter 42: the kit's EqualValues, EqualEvents, EqualReleases. -/
import Derived.Test.YtmalncmdfmoccaaGreatDoorCLnR
import Derived.Laws.StructEq
namespace Go.Proofs.YtmalncmdfmoccaaGreatDoor
open Go.RowKit
open Classical in
noncomputable def eqL {α : Type} (t u : List α) : Bool:=decide (t = u)
open Classical in
theorem eqL_yes {α : Type} (t : List α) : eqL t t = true:=decide_eq_true rfl
open Classical in
theorem eqL_no {α : Type} {t u : List α} (h : t ≠ u) : eqL t u = false:=decide_eq_false h
open Classical in
theorem eqL_iff {α : Type} (t u : List α) : eqL t u = true ↔ t = u:=decide_eq_true_iff
theorem cells_ofL {w : World} {b o : Nat} : ∀ (l : List Value) (k : Nat),(∀ j v,l[j]? = some v → w.cell? ⟨b,o + (k + j),none⟩ = some v) → cellsFrom w b o k l
  | [],_,_ => trivial
  | v :: l,k,h => ⟨by have:=h 0 v rfl; rwa [Nat.add_zero] at this,cells_ofL l (k + 1) fun j u hj => by
      have:=h (j + 1) u (by simpa using hj)
      rwa [show k + (j + 1) = k + 1 + j by omega] at this⟩
theorem cells_belowL {w0 w : World} {b o : Nat} {l : List Value} (hb : Below w0.heap.size w0 w) (hlt : b < w0.heap.size) (h : ∀ j v,l[j]? = some v → w0.cell? ⟨b,o + j,none⟩ = some v) : b < w.heap.size ∧ cellsFrom w b o 0 l :=
  ⟨Nat.lt_of_lt_of_le hlt hb.size,cells_ofL l 0 fun j v hj => by rw [Nat.zero_add]; exact (hb.cell hlt).trans (h j v hj)⟩
def eqEv (st us k x1 y1 x2 y2 t st' us' k' x1' y1' x2' y2' t' : Int) (d d' : Bool) : Bool:=decide (st = st') && (decide (us = us') && (decide (k = k') && (decide (x1 = x1') && (decide (y1 = y1') && (decide (x2 = x2') && (decide (y2 = y2') && (decide (d = d') && (decide (t = t')))))))))
theorem eqEv_iff (st us k x1 y1 x2 y2 t st' us' k' x1' y1' x2' y2' t' : Int) (d d' : Bool) : eqEv st us k x1 y1 x2 y2 t st' us' k' x1' y1' x2' y2' t' d d' = true ↔ st = st' ∧ us = us' ∧ k = k' ∧ x1 = x1' ∧ y1 = y1' ∧ x2 = x2' ∧ y2 = y2' ∧ d = d' ∧ t = t':=by
  unfold eqEv
  simp only [Bool.and_eq_true,decide_eq_true_eq]
set_option maxHeartbeats 4000000 in
theorem eqEv_run (st us k x1 y1 x2 y2 t st' us' k' x1' y1' x2' y2' t' : Int) (d d' : Bool) (w : World) : (Op.equalIn 10000 71 (.agg #[.int .i64 st,.int .i64 us,.int .u8 k,.int .i64 x1,.int .i64 y1,.int .i64 x2,.int .i64 y2,.bool d,.int .u64 t]) (.agg #[.int .i64 st',.int .i64 us',.int .u8 k',.int .i64 x1',.int .i64 y1',.int .i64 x2',.int .i64 y2',.bool d',.int .u64 t'])).run Tryz.prog w = .ok (eqEv st us k x1 y1 x2 y2 t st' us' k' x1' y1' x2' y2' t' d d') w:=by
  have u0:=Tryz.underlying5
  have u1:=Tryz.underlying3
  have u2:=Tryz.underlying50
  have u3:=Tryz.underlying49
  have u4:=Tryz.underlying4
  have hS : Tryz.prog.underlying 71 = some (.struct (Tryz.prog.fieldsOf 71)):=by kernel_rfl
  have hp : Tryz.prog.stoodInHeld 71 = false:=by kernel_rfl
  rw [show (10000 : Nat) = 9999 + 1 from rfl,run_equalIn_agg w 9999 _ _ _ hS hp]
  simp only [Program.fieldsOf,Tryz.underlying71]
  unfold eqEv
  cases d <;> cases d' <;> go_simp
  · by_cases h : st = st'
    rotate_left
    · simp [h]
    simp only [if_pos h,decide_eq_true h,Bool.true_and]
    clear h
    by_cases h : us = us'
    rotate_left
    · simp [h]
    simp only [if_pos h,decide_eq_true h,Bool.true_and]
    clear h
    by_cases h : k = k'
    rotate_left
    · simp [h]
    simp only [if_pos h,decide_eq_true h,Bool.true_and]
    clear h
    by_cases h : x1 = x1'
    rotate_left
    · simp [h]
    simp only [if_pos h,decide_eq_true h,Bool.true_and]
    clear h
    by_cases h : y1 = y1'
    rotate_left
    · simp [h]
    simp only [if_pos h,decide_eq_true h,Bool.true_and]
    clear h
    by_cases h : x2 = x2'
    rotate_left
    · simp [h]
    simp only [if_pos h,decide_eq_true h,Bool.true_and]
    clear h
    by_cases h : y2 = y2'
    rotate_left
    · simp [h]
    simp only [if_pos h,decide_eq_true h,Bool.true_and]
    clear h
    by_cases h : t = t'
    · simp [h]
    · simp [h]
  · by_cases h : st = st'
    rotate_left
    · simp [h]
    simp only [if_pos h,decide_eq_true h,Bool.true_and]
    clear h
    by_cases h : us = us'
    rotate_left
    · simp [h]
    simp only [if_pos h,decide_eq_true h,Bool.true_and]
    clear h
    by_cases h : k = k'
    rotate_left
    · simp [h]
    simp only [if_pos h,decide_eq_true h,Bool.true_and]
    clear h
    by_cases h : x1 = x1'
    rotate_left
    · simp [h]
    simp only [if_pos h,decide_eq_true h,Bool.true_and]
    clear h
    by_cases h : y1 = y1'
    rotate_left
    · simp [h]
    simp only [if_pos h,decide_eq_true h,Bool.true_and]
    clear h
    by_cases h : x2 = x2'
    rotate_left
    · simp [h]
    simp only [if_pos h,decide_eq_true h,Bool.true_and]
    clear h
    by_cases h : y2 = y2'
    rotate_left
    · simp [h]
    simp only [if_pos h,decide_eq_true h,Bool.true_and]
    clear h
    by_cases h : t = t'
    · simp [h]
    · simp [h]
def eqRl (st c0 r0 nd k x1 y1 x2 y2 gr t st' c0' r0' nd' k' x1' y1' x2' y2' gr' t' : Int) : Bool:=decide (st = st') && (decide (c0 = c0') && (decide (r0 = r0') && (decide (nd = nd') && (decide (k = k') && (decide (x1 = x1') && (decide (y1 = y1') && (decide (x2 = x2') && (decide (y2 = y2') && (decide (gr = gr') && (decide (t = t')))))))))))
theorem eqRl_iff (st c0 r0 nd k x1 y1 x2 y2 gr t st' c0' r0' nd' k' x1' y1' x2' y2' gr' t' : Int) : eqRl st c0 r0 nd k x1 y1 x2 y2 gr t st' c0' r0' nd' k' x1' y1' x2' y2' gr' t' = true ↔ st = st' ∧ c0 = c0' ∧ r0 = r0' ∧ nd = nd' ∧ k = k' ∧ x1 = x1' ∧ y1 = y1' ∧ x2 = x2' ∧ y2 = y2' ∧ gr = gr' ∧ t = t':=by
  unfold eqRl
  simp only [Bool.and_eq_true,decide_eq_true_eq]
set_option maxHeartbeats 4000000 in
theorem eqRl_run (st c0 r0 nd k x1 y1 x2 y2 gr t st' c0' r0' nd' k' x1' y1' x2' y2' gr' t' : Int) (w : World) : (Op.equalIn 10000 76 (.agg #[.int .i64 st,.int .i64 c0,.int .i64 r0,.int .i64 nd,.int .u8 k,.int .i64 x1,.int .i64 y1,.int .i64 x2,.int .i64 y2,.int .i64 gr,.int .u64 t]) (.agg #[.int .i64 st',.int .i64 c0',.int .i64 r0',.int .i64 nd',.int .u8 k',.int .i64 x1',.int .i64 y1',.int .i64 x2',.int .i64 y2',.int .i64 gr',.int .u64 t'])).run Tryz.prog w = .ok (eqRl st c0 r0 nd k x1 y1 x2 y2 gr t st' c0' r0' nd' k' x1' y1' x2' y2' gr' t') w:=by
  have u0:=Tryz.underlying5
  have u1:=Tryz.underlying3
  have u2:=Tryz.underlying50
  have u3:=Tryz.underlying49
  have u4:=Tryz.underlying45
  have u5:=Tryz.underlying74
  have hS : Tryz.prog.underlying 76 = some (.struct (Tryz.prog.fieldsOf 76)):=by kernel_rfl
  have hp : Tryz.prog.stoodInHeld 76 = false:=by kernel_rfl
  rw [show (10000 : Nat) = 9999 + 1 from rfl,run_equalIn_agg w 9999 _ _ _ hS hp]
  simp only [Program.fieldsOf,Tryz.underlying76]
  unfold eqRl
  go_simp
  by_cases h : st = st'
  rotate_left
  · simp [h]
  simp only [if_pos h,decide_eq_true h,Bool.true_and]
  clear h
  by_cases h : c0 = c0'
  rotate_left
  · simp [h]
  simp only [if_pos h,decide_eq_true h,Bool.true_and]
  clear h
  by_cases h : r0 = r0'
  rotate_left
  · simp [h]
  simp only [if_pos h,decide_eq_true h,Bool.true_and]
  clear h
  by_cases h : nd = nd'
  rotate_left
  · simp [h]
  simp only [if_pos h,decide_eq_true h,Bool.true_and]
  clear h
  by_cases h : k = k'
  rotate_left
  · simp [h]
  simp only [if_pos h,decide_eq_true h,Bool.true_and]
  clear h
  by_cases h : x1 = x1'
  rotate_left
  · simp [h]
  simp only [if_pos h,decide_eq_true h,Bool.true_and]
  clear h
  by_cases h : y1 = y1'
  rotate_left
  · simp [h]
  simp only [if_pos h,decide_eq_true h,Bool.true_and]
  clear h
  by_cases h : x2 = x2'
  rotate_left
  · simp [h]
  simp only [if_pos h,decide_eq_true h,Bool.true_and]
  clear h
  by_cases h : y2 = y2'
  rotate_left
  · simp [h]
  simp only [if_pos h,decide_eq_true h,Bool.true_and]
  clear h
  by_cases h : gr = gr'
  rotate_left
  · simp [h]
  simp only [if_pos h,decide_eq_true h,Bool.true_and]
  clear h
  by_cases h : t = t'
  · simp [h]
  · simp [h]
attribute [local go_sem high] eq_val eqEv_run eqRl_run
set_option maxRecDepth 100000 in
set_option maxHeartbeats 8000000 in
theorem equal_vals (t u : List VlL) (a b : Option Addr) (c d : Nat) (w : World) (ha : RowsAt w a 3 (t.map vlRow)) (hb : RowsAt w b 3 (u.map vlRow)) (ht : t.length ≤ 100000) (hu : u.length ≤ 100000) :
    Calls Tryz.prog 38 #[.slice a t.length c,.slice b u.length d] w fun e w' => e = .returned (.bool (eqL t u)) ∧ Below w.heap.size w w':=by
  have HA:=keep ha
  have HB:=keep hb
  clear ha hb
  obtain ⟨V,hV⟩ : ∃ V,eqL t u = V:=⟨_,rfl⟩
  rw [hV]
  have HV:=keep hV
  clear hV
  obtain ⟨n,hn⟩ : ∃ n,t.length = n:=⟨_,rfl⟩
  obtain ⟨m,hm⟩ : ∃ m,u.length = m:=⟨_,rfl⟩
  rw [hn,hm]
  have HN:=keep hn
  have HM:=keep hm
  rw [hn] at ht
  rw [hm] at hu
  clear hn hm
  by_cases hnm : n = m
  rotate_left
  · have hne : ((n : Int) != (m : Int)) = true:=by simp; omega
    have HE:=keep (show V = false from HV.out.symm.trans (eqL_no (by rintro rfl; exact hnm (HN.out.symm.trans HM.out))))
    clear hnm
    go_enter Tryz.func38,Tryz.ntmps38
    go_wp2_with fail
    go_ret
    exact ⟨by rw [HE.out]; rfl,Below.refl _ _⟩
  subst hnm
  go_enter Tryz.func38,Tryz.ntmps38
  go_wp2_with fail
  go_loopw [5] (fun i wr => ∃ k : Nat,k ≤ n ∧ i = .int .i64 (k : Int) ∧ Keep (t.take k = u.take k) ∧ Hid (Below w.heap.size w wr)) (fun i _ => n - (intOf i).toNat)
  case atStart => exact ⟨0,Nat.zero_le _,rfl,keep rfl,Below.refl _ _⟩
  case round =>
    obtain ⟨j,hj,rfl,HEQ,H2⟩:=hrel
    obtain ⟨wp,rfl⟩ : ∃ wp : World,wp = wr:=⟨_,rfl⟩
    by_cases hlt : (j : Int) < n
    · have hil : j < t.length:=by rw [HN.out]; omega
      have hil2 : j < u.length:=by rw [HM.out]; omega
      obtain ⟨x,hx⟩ : ∃ x,t[j] = x:=⟨_,rfl⟩
      obtain ⟨y,hy⟩ : ∃ y,u[j] = y:=⟨_,rfl⟩
      have HST:=keep (show x = y → t.take (j + 1) = u.take (j + 1) from fun e => by rw [List.take_succ_eq_append_getElem hil,List.take_succ_eq_append_getElem hil2,HEQ.out,hx,hy,e])
      have HNE:=keep (show x ≠ y → V = false from fun e => HV.out.symm.trans (eqL_no (by rintro rfl; exact e (hx.symm.trans hy))))
      obtain ⟨b1,o1,ha1,hB1,hc1⟩:=rows_atL HA.out (i:=j) (r:=vlRow x) (by rw [List.getElem?_map,List.getElem?_eq_getElem hil,hx]; rfl)
      obtain ⟨b2,o2,hb2,hB2,hc2⟩:=rows_atL HB.out (i:=j) (r:=vlRow y) (by rw [List.getElem?_map,List.getElem?_eq_getElem hil2,hy]; rfl)
      subst ha1 hb2
      have q1:=cells_belowL H2.out hB1 hc1
      have q2:=cells_belowL H2.out hB2 hc2
      clear hil hil2 hx hy hc1 hc2
      obtain ⟨xk,xn,xt⟩:=x
      obtain ⟨yk,yn,yt⟩:=y
      obtain ⟨q,hq⟩ : ∃ q,eq3 (xk : Nat) xn (yk : Nat) yn xt yt = q:=⟨_,rfl⟩
      have HQ:=keep hq
      have H3 : Hid (Ok w [kCells b1 (o1 + j * 3) [.int .u8 (xk : Nat),.int .i64 xn,.string ⟨xt.toArray⟩],kCells b2 (o2 + j * 3) [.int .u8 (yk : Nat),.int .i64 yn,.string ⟨yt.toArray⟩]] wp):=Lib.hid (((⟨H2.out,fun _ h => absurd h (by simp)⟩ : Ok w [] wp).add (kCells b2 (o2 + j * 3) [.int .u8 (yk : Nat),.int .i64 yn,.string ⟨yt.toArray⟩]) q2).add (kCells b1 (o1 + j * 3) [.int .u8 (xk : Nat),.int .i64 xn,.string ⟨xt.toArray⟩]) q1)
      clear H2 q1 q2
      cases q
      · have HE:=keep (HNE.out fun e => by
          have h9 : eq3 (xk : Nat) xn (yk : Nat) yn xt yt = true:=by
            have e1 : xk = yk:=congrArg (fun v : VlL => v.1) e
            have e2 : xn = yn:=congrArg (fun v : VlL => v.2.1) e
            have e3 : xt = yt:=congrArg (fun v : VlL => v.2.2) e
            exact (eq3_iff ..).2 ⟨by omega,e2,e3⟩
          rw [HQ.out] at h9; cases h9)
        go_upto_region 6 with fail
        refine wp_region_held_drew (S:=fun W => Ok w [kCells b1 (o1 + j * 3) [.int .u8 (xk : Nat),.int .i64 xn,.string ⟨xt.toArray⟩],kCells b2 (o2 + j * 3) [.int .u8 (yk : Nat),.int .i64 yn,.string ⟨yt.toArray⟩]] W) (by kernel_rfl) H3.out.drew (fun hHeld => ?_)
        refine wpAnyH_take (i:=0) (v:=?vx1_0) rfl (by kernel_rfl) (by kernel_rfl) (by kernel_rfl) (fun _ _ _ h => h) (Or.inl ⟨by rfl,?hyx1_0⟩) (by assumption) ?restx1_0
        case hyx1_0 => (intro w hSw; have F:=Ok.sees hSw; clear hSw; simp only [sees,kCells,cellsFrom,Nat.add_zero,Nat.reduceAdd] at F; go_simp; try with_reducible rfl)
        try simp only [Act.put,List.setIfInBounds_toArray,List.set_cons_zero,List.set_cons_succ,List.getElem_toArray,List.getElem_cons_zero]
        refine wpAnyH_take (i:=1) (v:=?vx2_1) rfl (by kernel_rfl) (by kernel_rfl) (by kernel_rfl) (fun _ _ _ h => h) (Or.inl ⟨by rfl,?hyx2_1⟩) (by assumption) ?restx2_1
        case hyx2_1 => (intro w hSw; have F:=Ok.sees hSw; clear hSw; simp only [sees,kCells,cellsFrom,Nat.add_zero,Nat.reduceAdd] at F; go_simp; try with_reducible rfl)
        try simp only [Act.put,List.setIfInBounds_toArray,List.set_cons_zero,List.set_cons_succ,List.getElem_toArray,List.getElem_cons_succ,List.getElem_cons_zero]
        refine wpAnyH_take (i:=2) (v:=?vx3_2) rfl (by kernel_rfl) (by kernel_rfl) (by kernel_rfl) (fun _ _ _ h => h) (Or.inl ⟨by rfl,?hyx3_2⟩) (by assumption) ?restx3_2
        case hyx3_2 => (intro w hSw; have F:=Ok.sees hSw; clear hSw; simp only [sees,kCells,cellsFrom,Nat.add_zero,Nat.reduceAdd] at F; go_simp; try with_reducible rfl)
        try simp only [Act.put,List.setIfInBounds_toArray,List.set_cons_zero,List.set_cons_succ,List.getElem_toArray,List.getElem_cons_succ,List.getElem_cons_zero]
        refine wpAnyH_take (i:=3) (v:=?vx4_3) rfl (by kernel_rfl) (by kernel_rfl) (by kernel_rfl) (fun _ _ _ h => h) (Or.inl ⟨by rfl,?hyx4_3⟩) (by assumption) ?restx4_3
        case hyx4_3 => (intro w hSw; have F:=Ok.sees hSw; clear hSw; simp only [sees,kCells,cellsFrom,Nat.add_zero,Nat.reduceAdd] at F; go_simp; try with_reducible rfl)
        try simp only [Act.put,List.setIfInBounds_toArray,List.set_cons_zero,List.set_cons_succ,List.getElem_toArray,List.getElem_cons_succ,List.getElem_cons_zero]
        refine wpAnyH_take (i:=4) (v:=?vx5_4) rfl (by kernel_rfl) (by kernel_rfl) (by kernel_rfl) (fun _ _ _ h => h) (Or.inl ⟨by rfl,?hyx5_4⟩) (by assumption) ?restx5_4
        case hyx5_4 => (intro w hSw; have F:=Ok.sees hSw; clear hSw; simp only [sees,kCells,cellsFrom,Nat.add_zero,Nat.reduceAdd] at F; go_simp; try with_reducible rfl)
        try simp only [Act.put,List.setIfInBounds_toArray,List.set_cons_zero,List.set_cons_succ,List.getElem_toArray,List.getElem_cons_succ,List.getElem_cons_zero]
        refine wpAnyH_take (i:=5) (v:=?vx6_5) rfl (by kernel_rfl) (by kernel_rfl) (by kernel_rfl) (fun _ _ _ h => h) (Or.inl ⟨by rfl,?hyx6_5⟩) (by assumption) ?restx6_5
        case hyx6_5 => (intro w hSw; have F:=Ok.sees hSw; clear hSw; simp only [sees,kCells,cellsFrom,Nat.add_zero,Nat.reduceAdd] at F; go_simp; try with_reducible rfl)
        try simp only [Act.put,List.setIfInBounds_toArray,List.set_cons_zero,List.set_cons_succ,List.getElem_toArray,List.getElem_cons_succ,List.getElem_cons_zero]
        refine wpAnyH_take (i:=6) (v:=?vx7_6) rfl (by kernel_rfl) (by kernel_rfl) (by kernel_rfl) (fun _ _ _ h => h) (Or.inl ⟨by rfl,?hyx7_6⟩) (by assumption) ?restx7_6
        case hyx7_6 => (intro w hSw; have F:=Ok.sees hSw; clear hSw; simp only [sees,kCells,cellsFrom,Nat.add_zero,Nat.reduceAdd] at F; go_simp; try with_reducible rfl)
        try simp only [Act.put,List.setIfInBounds_toArray,List.set_cons_zero,List.set_cons_succ,List.getElem_toArray,List.getElem_cons_succ,List.getElem_cons_zero]
        refine wpAnyH_take (i:=7) (v:=?vx8_7) rfl (by kernel_rfl) (by kernel_rfl) (by kernel_rfl) (fun _ _ _ h => h) (Or.inl ⟨by rfl,?hyx8_7⟩) (by assumption) ?restx8_7
        case hyx8_7 => (intro w hSw; have F:=Ok.sees hSw; clear hSw; simp only [sees,kCells,cellsFrom,Nat.add_zero,Nat.reduceAdd] at F; go_simp; try with_reducible rfl)
        try simp only [Act.put,List.setIfInBounds_toArray,List.set_cons_zero,List.set_cons_succ,List.getElem_toArray,List.getElem_cons_succ,List.getElem_cons_zero]
        refine wpAnyH_take (i:=8) (v:=?vx9_8) rfl (by kernel_rfl) (by kernel_rfl) (by kernel_rfl) (fun _ _ _ h => h) (Or.inl ⟨by rfl,?hyx9_8⟩) (by assumption) ?restx9_8
        case hyx9_8 => (intro w hSw; have F:=Ok.sees hSw; clear hSw; simp only [sees,kCells,cellsFrom,Nat.add_zero,Nat.reduceAdd] at F; go_simp; try with_reducible rfl)
        try simp only [Act.put,List.setIfInBounds_toArray,List.set_cons_zero,List.set_cons_succ,List.getElem_toArray,List.getElem_cons_succ,List.getElem_cons_zero]
        refine wpAnyH_done (by kernel_rfl) ?_ _
        clear H3
        have H2:=Lib.hid hHeld
        clear hHeld
        go_wp2_with fail
        go_ret
        exact ⟨by rw [HE.out]; rfl,H2.out.bel⟩
      · have HEE:=keep (HST.out (by
          obtain ⟨e1,e2,e3⟩:=(eq3_iff ..).1 HQ.out
          have e1 : xk = yk:=by omega
          rw [e1,e2,e3]))
        go_upto_region 6 with fail
        refine wp_region_held_drew (S:=fun W => Ok w [kCells b1 (o1 + j * 3) [.int .u8 (xk : Nat),.int .i64 xn,.string ⟨xt.toArray⟩],kCells b2 (o2 + j * 3) [.int .u8 (yk : Nat),.int .i64 yn,.string ⟨yt.toArray⟩]] W) (by kernel_rfl) H3.out.drew (fun hHeld => ?_)
        refine wpAnyH_take (i:=0) (v:=?vx10_0) rfl (by kernel_rfl) (by kernel_rfl) (by kernel_rfl) (fun _ _ _ h => h) (Or.inl ⟨by rfl,?hyx10_0⟩) (by assumption) ?restx10_0
        case hyx10_0 => (intro w hSw; have F:=Ok.sees hSw; clear hSw; simp only [sees,kCells,cellsFrom,Nat.add_zero,Nat.reduceAdd] at F; go_simp; try with_reducible rfl)
        try simp only [Act.put,List.setIfInBounds_toArray,List.set_cons_zero,List.set_cons_succ,List.getElem_toArray,List.getElem_cons_zero]
        refine wpAnyH_take (i:=1) (v:=?vx11_1) rfl (by kernel_rfl) (by kernel_rfl) (by kernel_rfl) (fun _ _ _ h => h) (Or.inl ⟨by rfl,?hyx11_1⟩) (by assumption) ?restx11_1
        case hyx11_1 => (intro w hSw; have F:=Ok.sees hSw; clear hSw; simp only [sees,kCells,cellsFrom,Nat.add_zero,Nat.reduceAdd] at F; go_simp; try with_reducible rfl)
        try simp only [Act.put,List.setIfInBounds_toArray,List.set_cons_zero,List.set_cons_succ,List.getElem_toArray,List.getElem_cons_succ,List.getElem_cons_zero]
        refine wpAnyH_take (i:=2) (v:=?vx12_2) rfl (by kernel_rfl) (by kernel_rfl) (by kernel_rfl) (fun _ _ _ h => h) (Or.inl ⟨by rfl,?hyx12_2⟩) (by assumption) ?restx12_2
        case hyx12_2 => (intro w hSw; have F:=Ok.sees hSw; clear hSw; simp only [sees,kCells,cellsFrom,Nat.add_zero,Nat.reduceAdd] at F; go_simp; try with_reducible rfl)
        try simp only [Act.put,List.setIfInBounds_toArray,List.set_cons_zero,List.set_cons_succ,List.getElem_toArray,List.getElem_cons_succ,List.getElem_cons_zero]
        refine wpAnyH_take (i:=3) (v:=?vx13_3) rfl (by kernel_rfl) (by kernel_rfl) (by kernel_rfl) (fun _ _ _ h => h) (Or.inl ⟨by rfl,?hyx13_3⟩) (by assumption) ?restx13_3
        case hyx13_3 => (intro w hSw; have F:=Ok.sees hSw; clear hSw; simp only [sees,kCells,cellsFrom,Nat.add_zero,Nat.reduceAdd] at F; go_simp; try with_reducible rfl)
        try simp only [Act.put,List.setIfInBounds_toArray,List.set_cons_zero,List.set_cons_succ,List.getElem_toArray,List.getElem_cons_succ,List.getElem_cons_zero]
        refine wpAnyH_take (i:=4) (v:=?vx14_4) rfl (by kernel_rfl) (by kernel_rfl) (by kernel_rfl) (fun _ _ _ h => h) (Or.inl ⟨by rfl,?hyx14_4⟩) (by assumption) ?restx14_4
        case hyx14_4 => (intro w hSw; have F:=Ok.sees hSw; clear hSw; simp only [sees,kCells,cellsFrom,Nat.add_zero,Nat.reduceAdd] at F; go_simp; try with_reducible rfl)
        try simp only [Act.put,List.setIfInBounds_toArray,List.set_cons_zero,List.set_cons_succ,List.getElem_toArray,List.getElem_cons_succ,List.getElem_cons_zero]
        refine wpAnyH_take (i:=5) (v:=?vx15_5) rfl (by kernel_rfl) (by kernel_rfl) (by kernel_rfl) (fun _ _ _ h => h) (Or.inl ⟨by rfl,?hyx15_5⟩) (by assumption) ?restx15_5
        case hyx15_5 => (intro w hSw; have F:=Ok.sees hSw; clear hSw; simp only [sees,kCells,cellsFrom,Nat.add_zero,Nat.reduceAdd] at F; go_simp; try with_reducible rfl)
        try simp only [Act.put,List.setIfInBounds_toArray,List.set_cons_zero,List.set_cons_succ,List.getElem_toArray,List.getElem_cons_succ,List.getElem_cons_zero]
        refine wpAnyH_take (i:=6) (v:=?vx16_6) rfl (by kernel_rfl) (by kernel_rfl) (by kernel_rfl) (fun _ _ _ h => h) (Or.inl ⟨by rfl,?hyx16_6⟩) (by assumption) ?restx16_6
        case hyx16_6 => (intro w hSw; have F:=Ok.sees hSw; clear hSw; simp only [sees,kCells,cellsFrom,Nat.add_zero,Nat.reduceAdd] at F; go_simp; try with_reducible rfl)
        try simp only [Act.put,List.setIfInBounds_toArray,List.set_cons_zero,List.set_cons_succ,List.getElem_toArray,List.getElem_cons_succ,List.getElem_cons_zero]
        refine wpAnyH_take (i:=7) (v:=?vx17_7) rfl (by kernel_rfl) (by kernel_rfl) (by kernel_rfl) (fun _ _ _ h => h) (Or.inl ⟨by rfl,?hyx17_7⟩) (by assumption) ?restx17_7
        case hyx17_7 => (intro w hSw; have F:=Ok.sees hSw; clear hSw; simp only [sees,kCells,cellsFrom,Nat.add_zero,Nat.reduceAdd] at F; go_simp; try with_reducible rfl)
        try simp only [Act.put,List.setIfInBounds_toArray,List.set_cons_zero,List.set_cons_succ,List.getElem_toArray,List.getElem_cons_succ,List.getElem_cons_zero]
        refine wpAnyH_take (i:=8) (v:=?vx18_8) rfl (by kernel_rfl) (by kernel_rfl) (by kernel_rfl) (fun _ _ _ h => h) (Or.inl ⟨by rfl,?hyx18_8⟩) (by assumption) ?restx18_8
        case hyx18_8 => (intro w hSw; have F:=Ok.sees hSw; clear hSw; simp only [sees,kCells,cellsFrom,Nat.add_zero,Nat.reduceAdd] at F; go_simp; try with_reducible rfl)
        try simp only [Act.put,List.setIfInBounds_toArray,List.set_cons_zero,List.set_cons_succ,List.getElem_toArray,List.getElem_cons_succ,List.getElem_cons_zero]
        refine wpAnyH_done (by kernel_rfl) ?_ _
        clear H3
        have H2:=Lib.hid hHeld
        clear hHeld
        go_wp2_with fail
        go_roundw
        case rel => exact ⟨j + 1,by omega,by go_num,HEE,H2.out.bel⟩
        case measure => simp [intOf]; omega
    · obtain rfl : n = j:=by omega
      have HE:=keep (show V = true by
        have h9:=HEQ.out
        rw [List.take_of_length_le (by rw [HN.out]; exact Nat.le_refl _),List.take_of_length_le (by rw [HM.out]; exact Nat.le_refl _)] at h9
        rw [← HV.out,h9]; exact eqL_yes _)
      go_wp2_with fail
      go_ret
      exact ⟨by rw [HE.out]; rfl,H2.out⟩
set_option maxRecDepth 100000 in
set_option maxHeartbeats 8000000 in
theorem equal_evs (t u : List EvD) (a b : Option Addr) (c d : Nat) (w : World) (ha : RowsAt w a 9 (t.map evRow)) (hb : RowsAt w b 9 (u.map evRow)) (ht : t.length ≤ 100000) (hu : u.length ≤ 100000) :
    Calls Tryz.prog 39 #[.slice a t.length c,.slice b u.length d] w fun e w' => e = .returned (.bool (eqL t u)) ∧ Below w.heap.size w w':=by
  have HA:=keep ha
  have HB:=keep hb
  clear ha hb
  obtain ⟨V,hV⟩ : ∃ V,eqL t u = V:=⟨_,rfl⟩
  rw [hV]
  have HV:=keep hV
  clear hV
  obtain ⟨n,hn⟩ : ∃ n,t.length = n:=⟨_,rfl⟩
  obtain ⟨m,hm⟩ : ∃ m,u.length = m:=⟨_,rfl⟩
  rw [hn,hm]
  have HN:=keep hn
  have HM:=keep hm
  rw [hn] at ht
  rw [hm] at hu
  clear hn hm
  by_cases hnm : n = m
  rotate_left
  · have hne : ((n : Int) != (m : Int)) = true:=by simp; omega
    have HE:=keep (show V = false from HV.out.symm.trans (eqL_no (by rintro rfl; exact hnm (HN.out.symm.trans HM.out))))
    clear hnm
    go_enter Tryz.func39,Tryz.ntmps39
    go_wp2_with fail
    go_ret
    exact ⟨by rw [HE.out]; rfl,Below.refl _ _⟩
  subst hnm
  go_enter Tryz.func39,Tryz.ntmps39
  go_wp2_with fail
  go_loopw [5] (fun i wr => ∃ k : Nat,k ≤ n ∧ i = .int .i64 (k : Int) ∧ Keep (t.take k = u.take k) ∧ Hid (Below w.heap.size w wr)) (fun i _ => n - (intOf i).toNat)
  case atStart => exact ⟨0,Nat.zero_le _,rfl,keep rfl,Below.refl _ _⟩
  case round =>
    obtain ⟨j,hj,rfl,HEQ,H2⟩:=hrel
    obtain ⟨wp,rfl⟩ : ∃ wp : World,wp = wr:=⟨_,rfl⟩
    by_cases hlt : (j : Int) < n
    · have hil : j < t.length:=by rw [HN.out]; omega
      have hil2 : j < u.length:=by rw [HM.out]; omega
      obtain ⟨x,hx⟩ : ∃ x,t[j] = x:=⟨_,rfl⟩
      obtain ⟨y,hy⟩ : ∃ y,u[j] = y:=⟨_,rfl⟩
      have HST:=keep (show x = y → t.take (j + 1) = u.take (j + 1) from fun e => by rw [List.take_succ_eq_append_getElem hil,List.take_succ_eq_append_getElem hil2,HEQ.out,hx,hy,e])
      have HNE:=keep (show x ≠ y → V = false from fun e => HV.out.symm.trans (eqL_no (by rintro rfl; exact e (hx.symm.trans hy))))
      obtain ⟨b1,o1,ha1,hB1,hc1⟩:=rows_atL HA.out (i:=j) (r:=evRow x) (by rw [List.getElem?_map,List.getElem?_eq_getElem hil,hx]; rfl)
      obtain ⟨b2,o2,hb2,hB2,hc2⟩:=rows_atL HB.out (i:=j) (r:=evRow y) (by rw [List.getElem?_map,List.getElem?_eq_getElem hil2,hy]; rfl)
      subst ha1 hb2
      have q1:=cells_belowL H2.out hB1 hc1
      have q2:=cells_belowL H2.out hB2 hc2
      clear hil hil2 hx hy hc1 hc2
      obtain ⟨xst,xus,xk,⟨xx1,xy1,xx2,xy2⟩,xd,xt⟩:=x
      obtain ⟨yst,yus,yk,⟨yx1,yy1,yx2,yy2⟩,yd,yt⟩:=y
      obtain ⟨q,hq⟩ : ∃ q,eqEv xst xus (xk : Nat) xx1 xy1 xx2 xy2 (xt : Nat) yst yus (yk : Nat) yx1 yy1 yx2 yy2 (yt : Nat) xd yd = q:=⟨_,rfl⟩
      have HQ:=keep hq
      have H3 : Hid (Ok w [kCells b1 (o1 + j * 9) [.int .i64 xst,.int .i64 xus,.int .u8 (xk : Nat),.int .i64 xx1,.int .i64 xy1,.int .i64 xx2,.int .i64 xy2,.bool xd,.int .u64 (xt : Nat)],kCells b2 (o2 + j * 9) [.int .i64 yst,.int .i64 yus,.int .u8 (yk : Nat),.int .i64 yx1,.int .i64 yy1,.int .i64 yx2,.int .i64 yy2,.bool yd,.int .u64 (yt : Nat)]] wp):=Lib.hid (((⟨H2.out,fun _ h => absurd h (by simp)⟩ : Ok w [] wp).add (kCells b2 (o2 + j * 9) [.int .i64 yst,.int .i64 yus,.int .u8 (yk : Nat),.int .i64 yx1,.int .i64 yy1,.int .i64 yx2,.int .i64 yy2,.bool yd,.int .u64 (yt : Nat)]) q2).add (kCells b1 (o1 + j * 9) [.int .i64 xst,.int .i64 xus,.int .u8 (xk : Nat),.int .i64 xx1,.int .i64 xy1,.int .i64 xx2,.int .i64 xy2,.bool xd,.int .u64 (xt : Nat)]) q1)
      clear H2 q1 q2
      cases q
      · have HE:=keep (HNE.out fun e => by
          have h9 : eqEv xst xus (xk : Nat) xx1 xy1 xx2 xy2 (xt : Nat) yst yus (yk : Nat) yx1 yy1 yx2 yy2 (yt : Nat) xd yd = true:=by
            have e0 : xst = yst:=congrArg (fun v : EvD => v.step) e
            have e1 : xus = yus:=congrArg (fun v : EvD => v.user) e
            have e2 : xk = yk:=congrArg (fun v : EvD => v.kind) e
            have e3 : xx1 = yx1:=congrArg (fun v : EvD => v.rect.c1) e
            have e4 : xy1 = yy1:=congrArg (fun v : EvD => v.rect.r1) e
            have e5 : xx2 = yx2:=congrArg (fun v : EvD => v.rect.c2) e
            have e6 : xy2 = yy2:=congrArg (fun v : EvD => v.rect.r2) e
            have e7 : xd = yd:=congrArg (fun v : EvD => v.done) e
            have e8 : xt = yt:=congrArg (fun v : EvD => v.tg) e
            exact (eqEv_iff ..).2 ⟨e0,e1,by omega,e3,e4,e5,e6,e7,by omega⟩
          rw [HQ.out] at h9; cases h9)
        go_upto_region 6 with fail
        refine wp_region_held_drew (S:=fun W => Ok w [kCells b1 (o1 + j * 9) [.int .i64 xst,.int .i64 xus,.int .u8 (xk : Nat),.int .i64 xx1,.int .i64 xy1,.int .i64 xx2,.int .i64 xy2,.bool xd,.int .u64 (xt : Nat)],kCells b2 (o2 + j * 9) [.int .i64 yst,.int .i64 yus,.int .u8 (yk : Nat),.int .i64 yx1,.int .i64 yy1,.int .i64 yx2,.int .i64 yy2,.bool yd,.int .u64 (yt : Nat)]] W) (by kernel_rfl) H3.out.drew (fun hHeld => ?_)
        refine wpAnyH_take (i:=0) (v:=?vx19_0) rfl (by kernel_rfl) (by kernel_rfl) (by kernel_rfl) (fun _ _ _ h => h) (Or.inl ⟨by rfl,?hyx19_0⟩) (by assumption) ?restx19_0
        case hyx19_0 => (intro w hSw; have F:=Ok.sees hSw; clear hSw; simp only [sees,kCells,cellsFrom,Nat.add_zero,Nat.reduceAdd] at F; go_simp; try with_reducible rfl)
        try simp only [Act.put,List.setIfInBounds_toArray,List.set_cons_zero,List.set_cons_succ,List.getElem_toArray,List.getElem_cons_zero]
        refine wpAnyH_take (i:=1) (v:=?vx20_1) rfl (by kernel_rfl) (by kernel_rfl) (by kernel_rfl) (fun _ _ _ h => h) (Or.inl ⟨by rfl,?hyx20_1⟩) (by assumption) ?restx20_1
        case hyx20_1 => (intro w hSw; have F:=Ok.sees hSw; clear hSw; simp only [sees,kCells,cellsFrom,Nat.add_zero,Nat.reduceAdd] at F; go_simp; try with_reducible rfl)
        try simp only [Act.put,List.setIfInBounds_toArray,List.set_cons_zero,List.set_cons_succ,List.getElem_toArray,List.getElem_cons_succ,List.getElem_cons_zero]
        refine wpAnyH_take (i:=2) (v:=?vx21_2) rfl (by kernel_rfl) (by kernel_rfl) (by kernel_rfl) (fun _ _ _ h => h) (Or.inl ⟨by rfl,?hyx21_2⟩) (by assumption) ?restx21_2
        case hyx21_2 => (intro w hSw; have F:=Ok.sees hSw; clear hSw; simp only [sees,kCells,cellsFrom,Nat.add_zero,Nat.reduceAdd] at F; go_simp; try with_reducible rfl)
        try simp only [Act.put,List.setIfInBounds_toArray,List.set_cons_zero,List.set_cons_succ,List.getElem_toArray,List.getElem_cons_succ,List.getElem_cons_zero]
        refine wpAnyH_take (i:=3) (v:=?vx22_3) rfl (by kernel_rfl) (by kernel_rfl) (by kernel_rfl) (fun _ _ _ h => h) (Or.inl ⟨by rfl,?hyx22_3⟩) (by assumption) ?restx22_3
        case hyx22_3 => (intro w hSw; have F:=Ok.sees hSw; clear hSw; simp only [sees,kCells,cellsFrom,Nat.add_zero,Nat.reduceAdd] at F; go_simp; try with_reducible rfl)
        try simp only [Act.put,List.setIfInBounds_toArray,List.set_cons_zero,List.set_cons_succ,List.getElem_toArray,List.getElem_cons_succ,List.getElem_cons_zero]
        refine wpAnyH_take (i:=4) (v:=?vx23_4) rfl (by kernel_rfl) (by kernel_rfl) (by kernel_rfl) (fun _ _ _ h => h) (Or.inl ⟨by rfl,?hyx23_4⟩) (by assumption) ?restx23_4
        case hyx23_4 => (intro w hSw; have F:=Ok.sees hSw; clear hSw; simp only [sees,kCells,cellsFrom,Nat.add_zero,Nat.reduceAdd] at F; go_simp; try with_reducible rfl)
        try simp only [Act.put,List.setIfInBounds_toArray,List.set_cons_zero,List.set_cons_succ,List.getElem_toArray,List.getElem_cons_succ,List.getElem_cons_zero]
        refine wpAnyH_take (i:=5) (v:=?vx24_5) rfl (by kernel_rfl) (by kernel_rfl) (by kernel_rfl) (fun _ _ _ h => h) (Or.inl ⟨by rfl,?hyx24_5⟩) (by assumption) ?restx24_5
        case hyx24_5 => (intro w hSw; have F:=Ok.sees hSw; clear hSw; simp only [sees,kCells,cellsFrom,Nat.add_zero,Nat.reduceAdd] at F; go_simp; try with_reducible rfl)
        try simp only [Act.put,List.setIfInBounds_toArray,List.set_cons_zero,List.set_cons_succ,List.getElem_toArray,List.getElem_cons_succ,List.getElem_cons_zero]
        refine wpAnyH_take (i:=6) (v:=?vx25_6) rfl (by kernel_rfl) (by kernel_rfl) (by kernel_rfl) (fun _ _ _ h => h) (Or.inl ⟨by rfl,?hyx25_6⟩) (by assumption) ?restx25_6
        case hyx25_6 => (intro w hSw; have F:=Ok.sees hSw; clear hSw; simp only [sees,kCells,cellsFrom,Nat.add_zero,Nat.reduceAdd] at F; go_simp; try with_reducible rfl)
        try simp only [Act.put,List.setIfInBounds_toArray,List.set_cons_zero,List.set_cons_succ,List.getElem_toArray,List.getElem_cons_succ,List.getElem_cons_zero]
        refine wpAnyH_take (i:=7) (v:=?vx26_7) rfl (by kernel_rfl) (by kernel_rfl) (by kernel_rfl) (fun _ _ _ h => h) (Or.inl ⟨by rfl,?hyx26_7⟩) (by assumption) ?restx26_7
        case hyx26_7 => (intro w hSw; have F:=Ok.sees hSw; clear hSw; simp only [sees,kCells,cellsFrom,Nat.add_zero,Nat.reduceAdd] at F; go_simp; try with_reducible rfl)
        try simp only [Act.put,List.setIfInBounds_toArray,List.set_cons_zero,List.set_cons_succ,List.getElem_toArray,List.getElem_cons_succ,List.getElem_cons_zero]
        refine wpAnyH_take (i:=8) (v:=?vx27_8) rfl (by kernel_rfl) (by kernel_rfl) (by kernel_rfl) (fun _ _ _ h => h) (Or.inl ⟨by rfl,?hyx27_8⟩) (by assumption) ?restx27_8
        case hyx27_8 => (intro w hSw; have F:=Ok.sees hSw; clear hSw; simp only [sees,kCells,cellsFrom,Nat.add_zero,Nat.reduceAdd] at F; go_simp; try with_reducible rfl)
        try simp only [Act.put,List.setIfInBounds_toArray,List.set_cons_zero,List.set_cons_succ,List.getElem_toArray,List.getElem_cons_succ,List.getElem_cons_zero]
        refine wpAnyH_done (by kernel_rfl) ?_ _
        clear H3
        have H2:=Lib.hid hHeld
        clear hHeld
        go_wp2_with fail
        go_ret
        exact ⟨by rw [HE.out]; rfl,H2.out.bel⟩
      · have HEE:=keep (HST.out (by
          obtain ⟨e0,e1,e2,e3,e4,e5,e6,e7,e8⟩:=(eqEv_iff ..).1 HQ.out
          have e2 : xk = yk:=by omega
          have e8 : xt = yt:=by omega
          rw [e0,e1,e2,e3,e4,e5,e6,e7,e8]))
        go_upto_region 6 with fail
        refine wp_region_held_drew (S:=fun W => Ok w [kCells b1 (o1 + j * 9) [.int .i64 xst,.int .i64 xus,.int .u8 (xk : Nat),.int .i64 xx1,.int .i64 xy1,.int .i64 xx2,.int .i64 xy2,.bool xd,.int .u64 (xt : Nat)],kCells b2 (o2 + j * 9) [.int .i64 yst,.int .i64 yus,.int .u8 (yk : Nat),.int .i64 yx1,.int .i64 yy1,.int .i64 yx2,.int .i64 yy2,.bool yd,.int .u64 (yt : Nat)]] W) (by kernel_rfl) H3.out.drew (fun hHeld => ?_)
        refine wpAnyH_take (i:=0) (v:=?vx28_0) rfl (by kernel_rfl) (by kernel_rfl) (by kernel_rfl) (fun _ _ _ h => h) (Or.inl ⟨by rfl,?hyx28_0⟩) (by assumption) ?restx28_0
        case hyx28_0 => (intro w hSw; have F:=Ok.sees hSw; clear hSw; simp only [sees,kCells,cellsFrom,Nat.add_zero,Nat.reduceAdd] at F; go_simp; try with_reducible rfl)
        try simp only [Act.put,List.setIfInBounds_toArray,List.set_cons_zero,List.set_cons_succ,List.getElem_toArray,List.getElem_cons_zero]
        refine wpAnyH_take (i:=1) (v:=?vx29_1) rfl (by kernel_rfl) (by kernel_rfl) (by kernel_rfl) (fun _ _ _ h => h) (Or.inl ⟨by rfl,?hyx29_1⟩) (by assumption) ?restx29_1
        case hyx29_1 => (intro w hSw; have F:=Ok.sees hSw; clear hSw; simp only [sees,kCells,cellsFrom,Nat.add_zero,Nat.reduceAdd] at F; go_simp; try with_reducible rfl)
        try simp only [Act.put,List.setIfInBounds_toArray,List.set_cons_zero,List.set_cons_succ,List.getElem_toArray,List.getElem_cons_succ,List.getElem_cons_zero]
        refine wpAnyH_take (i:=2) (v:=?vx30_2) rfl (by kernel_rfl) (by kernel_rfl) (by kernel_rfl) (fun _ _ _ h => h) (Or.inl ⟨by rfl,?hyx30_2⟩) (by assumption) ?restx30_2
        case hyx30_2 => (intro w hSw; have F:=Ok.sees hSw; clear hSw; simp only [sees,kCells,cellsFrom,Nat.add_zero,Nat.reduceAdd] at F; go_simp; try with_reducible rfl)
        try simp only [Act.put,List.setIfInBounds_toArray,List.set_cons_zero,List.set_cons_succ,List.getElem_toArray,List.getElem_cons_succ,List.getElem_cons_zero]
        refine wpAnyH_take (i:=3) (v:=?vx31_3) rfl (by kernel_rfl) (by kernel_rfl) (by kernel_rfl) (fun _ _ _ h => h) (Or.inl ⟨by rfl,?hyx31_3⟩) (by assumption) ?restx31_3
        case hyx31_3 => (intro w hSw; have F:=Ok.sees hSw; clear hSw; simp only [sees,kCells,cellsFrom,Nat.add_zero,Nat.reduceAdd] at F; go_simp; try with_reducible rfl)
        try simp only [Act.put,List.setIfInBounds_toArray,List.set_cons_zero,List.set_cons_succ,List.getElem_toArray,List.getElem_cons_succ,List.getElem_cons_zero]
        refine wpAnyH_take (i:=4) (v:=?vx32_4) rfl (by kernel_rfl) (by kernel_rfl) (by kernel_rfl) (fun _ _ _ h => h) (Or.inl ⟨by rfl,?hyx32_4⟩) (by assumption) ?restx32_4
        case hyx32_4 => (intro w hSw; have F:=Ok.sees hSw; clear hSw; simp only [sees,kCells,cellsFrom,Nat.add_zero,Nat.reduceAdd] at F; go_simp; try with_reducible rfl)
        try simp only [Act.put,List.setIfInBounds_toArray,List.set_cons_zero,List.set_cons_succ,List.getElem_toArray,List.getElem_cons_succ,List.getElem_cons_zero]
        refine wpAnyH_take (i:=5) (v:=?vx33_5) rfl (by kernel_rfl) (by kernel_rfl) (by kernel_rfl) (fun _ _ _ h => h) (Or.inl ⟨by rfl,?hyx33_5⟩) (by assumption) ?restx33_5
        case hyx33_5 => (intro w hSw; have F:=Ok.sees hSw; clear hSw; simp only [sees,kCells,cellsFrom,Nat.add_zero,Nat.reduceAdd] at F; go_simp; try with_reducible rfl)
        try simp only [Act.put,List.setIfInBounds_toArray,List.set_cons_zero,List.set_cons_succ,List.getElem_toArray,List.getElem_cons_succ,List.getElem_cons_zero]
        refine wpAnyH_take (i:=6) (v:=?vx34_6) rfl (by kernel_rfl) (by kernel_rfl) (by kernel_rfl) (fun _ _ _ h => h) (Or.inl ⟨by rfl,?hyx34_6⟩) (by assumption) ?restx34_6
        case hyx34_6 => (intro w hSw; have F:=Ok.sees hSw; clear hSw; simp only [sees,kCells,cellsFrom,Nat.add_zero,Nat.reduceAdd] at F; go_simp; try with_reducible rfl)
        try simp only [Act.put,List.setIfInBounds_toArray,List.set_cons_zero,List.set_cons_succ,List.getElem_toArray,List.getElem_cons_succ,List.getElem_cons_zero]
        refine wpAnyH_take (i:=7) (v:=?vx35_7) rfl (by kernel_rfl) (by kernel_rfl) (by kernel_rfl) (fun _ _ _ h => h) (Or.inl ⟨by rfl,?hyx35_7⟩) (by assumption) ?restx35_7
        case hyx35_7 => (intro w hSw; have F:=Ok.sees hSw; clear hSw; simp only [sees,kCells,cellsFrom,Nat.add_zero,Nat.reduceAdd] at F; go_simp; try with_reducible rfl)
        try simp only [Act.put,List.setIfInBounds_toArray,List.set_cons_zero,List.set_cons_succ,List.getElem_toArray,List.getElem_cons_succ,List.getElem_cons_zero]
        refine wpAnyH_take (i:=8) (v:=?vx36_8) rfl (by kernel_rfl) (by kernel_rfl) (by kernel_rfl) (fun _ _ _ h => h) (Or.inl ⟨by rfl,?hyx36_8⟩) (by assumption) ?restx36_8
        case hyx36_8 => (intro w hSw; have F:=Ok.sees hSw; clear hSw; simp only [sees,kCells,cellsFrom,Nat.add_zero,Nat.reduceAdd] at F; go_simp; try with_reducible rfl)
        try simp only [Act.put,List.setIfInBounds_toArray,List.set_cons_zero,List.set_cons_succ,List.getElem_toArray,List.getElem_cons_succ,List.getElem_cons_zero]
        refine wpAnyH_done (by kernel_rfl) ?_ _
        clear H3
        have H2:=Lib.hid hHeld
        clear hHeld
        go_wp2_with fail
        go_roundw
        case rel => exact ⟨j + 1,by omega,by go_num,HEE,H2.out.bel⟩
        case measure => simp [intOf]; omega
    · obtain rfl : n = j:=by omega
      have HE:=keep (show V = true by
        have h9:=HEQ.out
        rw [List.take_of_length_le (by rw [HN.out]; exact Nat.le_refl _),List.take_of_length_le (by rw [HM.out]; exact Nat.le_refl _)] at h9
        rw [← HV.out,h9]; exact eqL_yes _)
      go_wp2_with fail
      go_ret
      exact ⟨by rw [HE.out]; rfl,H2.out⟩
set_option maxRecDepth 100000 in
set_option maxHeartbeats 8000000 in
theorem equal_rls (t u : List RlD) (a b : Option Addr) (c d : Nat) (w : World) (ha : RowsAt w a 11 (t.map rlRow)) (hb : RowsAt w b 11 (u.map rlRow)) (ht : t.length ≤ 100000) (hu : u.length ≤ 100000) :
    Calls Tryz.prog 40 #[.slice a t.length c,.slice b u.length d] w fun e w' => e = .returned (.bool (eqL t u)) ∧ Below w.heap.size w w':=by
  have HA:=keep ha
  have HB:=keep hb
  clear ha hb
  obtain ⟨V,hV⟩ : ∃ V,eqL t u = V:=⟨_,rfl⟩
  rw [hV]
  have HV:=keep hV
  clear hV
  obtain ⟨n,hn⟩ : ∃ n,t.length = n:=⟨_,rfl⟩
  obtain ⟨m,hm⟩ : ∃ m,u.length = m:=⟨_,rfl⟩
  rw [hn,hm]
  have HN:=keep hn
  have HM:=keep hm
  rw [hn] at ht
  rw [hm] at hu
  clear hn hm
  by_cases hnm : n = m
  rotate_left
  · have hne : ((n : Int) != (m : Int)) = true:=by simp; omega
    have HE:=keep (show V = false from HV.out.symm.trans (eqL_no (by rintro rfl; exact hnm (HN.out.symm.trans HM.out))))
    clear hnm
    go_enter Tryz.func40,Tryz.ntmps40
    go_wp2_with fail
    go_ret
    exact ⟨by rw [HE.out]; rfl,Below.refl _ _⟩
  subst hnm
  go_enter Tryz.func40,Tryz.ntmps40
  go_wp2_with fail
  go_loopw [5] (fun i wr => ∃ k : Nat,k ≤ n ∧ i = .int .i64 (k : Int) ∧ Keep (t.take k = u.take k) ∧ Hid (Below w.heap.size w wr)) (fun i _ => n - (intOf i).toNat)
  case atStart => exact ⟨0,Nat.zero_le _,rfl,keep rfl,Below.refl _ _⟩
  case round =>
    obtain ⟨j,hj,rfl,HEQ,H2⟩:=hrel
    obtain ⟨wp,rfl⟩ : ∃ wp : World,wp = wr:=⟨_,rfl⟩
    by_cases hlt : (j : Int) < n
    · have hil : j < t.length:=by rw [HN.out]; omega
      have hil2 : j < u.length:=by rw [HM.out]; omega
      obtain ⟨x,hx⟩ : ∃ x,t[j] = x:=⟨_,rfl⟩
      obtain ⟨y,hy⟩ : ∃ y,u[j] = y:=⟨_,rfl⟩
      have HST:=keep (show x = y → t.take (j + 1) = u.take (j + 1) from fun e => by rw [List.take_succ_eq_append_getElem hil,List.take_succ_eq_append_getElem hil2,HEQ.out,hx,hy,e])
      have HNE:=keep (show x ≠ y → V = false from fun e => HV.out.symm.trans (eqL_no (by rintro rfl; exact e (hx.symm.trans hy))))
      obtain ⟨b1,o1,ha1,hB1,hc1⟩:=rows_atL HA.out (i:=j) (r:=rlRow x) (by rw [List.getElem?_map,List.getElem?_eq_getElem hil,hx]; rfl)
      obtain ⟨b2,o2,hb2,hB2,hc2⟩:=rows_atL HB.out (i:=j) (r:=rlRow y) (by rw [List.getElem?_map,List.getElem?_eq_getElem hil2,hy]; rfl)
      subst ha1 hb2
      have q1:=cells_belowL H2.out hB1 hc1
      have q2:=cells_belowL H2.out hB2 hc2
      clear hil hil2 hx hy hc1 hc2
      obtain ⟨xst,xc0,xr0,xnd,xk,⟨xx1,xy1,xx2,xy2⟩,xgr,xt⟩:=x
      obtain ⟨yst,yc0,yr0,ynd,yk,⟨yx1,yy1,yx2,yy2⟩,ygr,yt⟩:=y
      obtain ⟨q,hq⟩ : ∃ q,eqRl xst xc0 xr0 xnd (xk : Nat) xx1 xy1 xx2 xy2 xgr (xt : Nat) yst yc0 yr0 ynd (yk : Nat) yx1 yy1 yx2 yy2 ygr (yt : Nat) = q:=⟨_,rfl⟩
      have HQ:=keep hq
      have H3 : Hid (Ok w [kCells b1 (o1 + j * 11) [.int .i64 xst,.int .i64 xc0,.int .i64 xr0,.int .i64 xnd,.int .u8 (xk : Nat),.int .i64 xx1,.int .i64 xy1,.int .i64 xx2,.int .i64 xy2,.int .i64 xgr,.int .u64 (xt : Nat)],kCells b2 (o2 + j * 11) [.int .i64 yst,.int .i64 yc0,.int .i64 yr0,.int .i64 ynd,.int .u8 (yk : Nat),.int .i64 yx1,.int .i64 yy1,.int .i64 yx2,.int .i64 yy2,.int .i64 ygr,.int .u64 (yt : Nat)]] wp):=Lib.hid (((⟨H2.out,fun _ h => absurd h (by simp)⟩ : Ok w [] wp).add (kCells b2 (o2 + j * 11) [.int .i64 yst,.int .i64 yc0,.int .i64 yr0,.int .i64 ynd,.int .u8 (yk : Nat),.int .i64 yx1,.int .i64 yy1,.int .i64 yx2,.int .i64 yy2,.int .i64 ygr,.int .u64 (yt : Nat)]) q2).add (kCells b1 (o1 + j * 11) [.int .i64 xst,.int .i64 xc0,.int .i64 xr0,.int .i64 xnd,.int .u8 (xk : Nat),.int .i64 xx1,.int .i64 xy1,.int .i64 xx2,.int .i64 xy2,.int .i64 xgr,.int .u64 (xt : Nat)]) q1)
      clear H2 q1 q2
      cases q
      · have HE:=keep (HNE.out fun e => by
          have h9 : eqRl xst xc0 xr0 xnd (xk : Nat) xx1 xy1 xx2 xy2 xgr (xt : Nat) yst yc0 yr0 ynd (yk : Nat) yx1 yy1 yx2 yy2 ygr (yt : Nat) = true:=by
            have e0 : xst = yst:=congrArg (fun v : RlD => v.step) e
            have e1 : xc0 = yc0:=congrArg (fun v : RlD => v.col) e
            have e2 : xr0 = yr0:=congrArg (fun v : RlD => v.row) e
            have e3 : xnd = ynd:=congrArg (fun v : RlD => v.node) e
            have e4 : xk = yk:=congrArg (fun v : RlD => v.fn) e
            have e5 : xx1 = yx1:=congrArg (fun v : RlD => v.rect.c1) e
            have e6 : xy1 = yy1:=congrArg (fun v : RlD => v.rect.r1) e
            have e7 : xx2 = yx2:=congrArg (fun v : RlD => v.rect.c2) e
            have e8 : xy2 = yy2:=congrArg (fun v : RlD => v.rect.r2) e
            have e9 : xgr = ygr:=congrArg (fun v : RlD => v.grant) e
            have e10 : xt = yt:=congrArg (fun v : RlD => v.tg) e
            exact (eqRl_iff ..).2 ⟨e0,e1,e2,e3,by omega,e5,e6,e7,e8,e9,by omega⟩
          rw [HQ.out] at h9; cases h9)
        go_upto_region 6 with fail
        refine wp_region_held_drew (S:=fun W => Ok w [kCells b1 (o1 + j * 11) [.int .i64 xst,.int .i64 xc0,.int .i64 xr0,.int .i64 xnd,.int .u8 (xk : Nat),.int .i64 xx1,.int .i64 xy1,.int .i64 xx2,.int .i64 xy2,.int .i64 xgr,.int .u64 (xt : Nat)],kCells b2 (o2 + j * 11) [.int .i64 yst,.int .i64 yc0,.int .i64 yr0,.int .i64 ynd,.int .u8 (yk : Nat),.int .i64 yx1,.int .i64 yy1,.int .i64 yx2,.int .i64 yy2,.int .i64 ygr,.int .u64 (yt : Nat)]] W) (by kernel_rfl) H3.out.drew (fun hHeld => ?_)
        refine wpAnyH_take (i:=0) (v:=?vx37_0) rfl (by kernel_rfl) (by kernel_rfl) (by kernel_rfl) (fun _ _ _ h => h) (Or.inl ⟨by rfl,?hyx37_0⟩) (by assumption) ?restx37_0
        case hyx37_0 => (intro w hSw; have F:=Ok.sees hSw; clear hSw; simp only [sees,kCells,cellsFrom,Nat.add_zero,Nat.reduceAdd] at F; go_simp; try with_reducible rfl)
        try simp only [Act.put,List.setIfInBounds_toArray,List.set_cons_zero,List.set_cons_succ,List.getElem_toArray,List.getElem_cons_zero]
        refine wpAnyH_take (i:=1) (v:=?vx38_1) rfl (by kernel_rfl) (by kernel_rfl) (by kernel_rfl) (fun _ _ _ h => h) (Or.inl ⟨by rfl,?hyx38_1⟩) (by assumption) ?restx38_1
        case hyx38_1 => (intro w hSw; have F:=Ok.sees hSw; clear hSw; simp only [sees,kCells,cellsFrom,Nat.add_zero,Nat.reduceAdd] at F; go_simp; try with_reducible rfl)
        try simp only [Act.put,List.setIfInBounds_toArray,List.set_cons_zero,List.set_cons_succ,List.getElem_toArray,List.getElem_cons_succ,List.getElem_cons_zero]
        refine wpAnyH_take (i:=2) (v:=?vx39_2) rfl (by kernel_rfl) (by kernel_rfl) (by kernel_rfl) (fun _ _ _ h => h) (Or.inl ⟨by rfl,?hyx39_2⟩) (by assumption) ?restx39_2
        case hyx39_2 => (intro w hSw; have F:=Ok.sees hSw; clear hSw; simp only [sees,kCells,cellsFrom,Nat.add_zero,Nat.reduceAdd] at F; go_simp; try with_reducible rfl)
        try simp only [Act.put,List.setIfInBounds_toArray,List.set_cons_zero,List.set_cons_succ,List.getElem_toArray,List.getElem_cons_succ,List.getElem_cons_zero]
        refine wpAnyH_take (i:=3) (v:=?vx40_3) rfl (by kernel_rfl) (by kernel_rfl) (by kernel_rfl) (fun _ _ _ h => h) (Or.inl ⟨by rfl,?hyx40_3⟩) (by assumption) ?restx40_3
        case hyx40_3 => (intro w hSw; have F:=Ok.sees hSw; clear hSw; simp only [sees,kCells,cellsFrom,Nat.add_zero,Nat.reduceAdd] at F; go_simp; try with_reducible rfl)
        try simp only [Act.put,List.setIfInBounds_toArray,List.set_cons_zero,List.set_cons_succ,List.getElem_toArray,List.getElem_cons_succ,List.getElem_cons_zero]
        refine wpAnyH_take (i:=4) (v:=?vx41_4) rfl (by kernel_rfl) (by kernel_rfl) (by kernel_rfl) (fun _ _ _ h => h) (Or.inl ⟨by rfl,?hyx41_4⟩) (by assumption) ?restx41_4
        case hyx41_4 => (intro w hSw; have F:=Ok.sees hSw; clear hSw; simp only [sees,kCells,cellsFrom,Nat.add_zero,Nat.reduceAdd] at F; go_simp; try with_reducible rfl)
        try simp only [Act.put,List.setIfInBounds_toArray,List.set_cons_zero,List.set_cons_succ,List.getElem_toArray,List.getElem_cons_succ,List.getElem_cons_zero]
        refine wpAnyH_take (i:=5) (v:=?vx42_5) rfl (by kernel_rfl) (by kernel_rfl) (by kernel_rfl) (fun _ _ _ h => h) (Or.inl ⟨by rfl,?hyx42_5⟩) (by assumption) ?restx42_5
        case hyx42_5 => (intro w hSw; have F:=Ok.sees hSw; clear hSw; simp only [sees,kCells,cellsFrom,Nat.add_zero,Nat.reduceAdd] at F; go_simp; try with_reducible rfl)
        try simp only [Act.put,List.setIfInBounds_toArray,List.set_cons_zero,List.set_cons_succ,List.getElem_toArray,List.getElem_cons_succ,List.getElem_cons_zero]
        refine wpAnyH_take (i:=6) (v:=?vx43_6) rfl (by kernel_rfl) (by kernel_rfl) (by kernel_rfl) (fun _ _ _ h => h) (Or.inl ⟨by rfl,?hyx43_6⟩) (by assumption) ?restx43_6
        case hyx43_6 => (intro w hSw; have F:=Ok.sees hSw; clear hSw; simp only [sees,kCells,cellsFrom,Nat.add_zero,Nat.reduceAdd] at F; go_simp; try with_reducible rfl)
        try simp only [Act.put,List.setIfInBounds_toArray,List.set_cons_zero,List.set_cons_succ,List.getElem_toArray,List.getElem_cons_succ,List.getElem_cons_zero]
        refine wpAnyH_take (i:=7) (v:=?vx44_7) rfl (by kernel_rfl) (by kernel_rfl) (by kernel_rfl) (fun _ _ _ h => h) (Or.inl ⟨by rfl,?hyx44_7⟩) (by assumption) ?restx44_7
        case hyx44_7 => (intro w hSw; have F:=Ok.sees hSw; clear hSw; simp only [sees,kCells,cellsFrom,Nat.add_zero,Nat.reduceAdd] at F; go_simp; try with_reducible rfl)
        try simp only [Act.put,List.setIfInBounds_toArray,List.set_cons_zero,List.set_cons_succ,List.getElem_toArray,List.getElem_cons_succ,List.getElem_cons_zero]
        refine wpAnyH_take (i:=8) (v:=?vx45_8) rfl (by kernel_rfl) (by kernel_rfl) (by kernel_rfl) (fun _ _ _ h => h) (Or.inl ⟨by rfl,?hyx45_8⟩) (by assumption) ?restx45_8
        case hyx45_8 => (intro w hSw; have F:=Ok.sees hSw; clear hSw; simp only [sees,kCells,cellsFrom,Nat.add_zero,Nat.reduceAdd] at F; go_simp; try with_reducible rfl)
        try simp only [Act.put,List.setIfInBounds_toArray,List.set_cons_zero,List.set_cons_succ,List.getElem_toArray,List.getElem_cons_succ,List.getElem_cons_zero]
        refine wpAnyH_done (by kernel_rfl) ?_ _
        clear H3
        have H2:=Lib.hid hHeld
        clear hHeld
        go_wp2_with fail
        go_ret
        exact ⟨by rw [HE.out]; rfl,H2.out.bel⟩
      · have HEE:=keep (HST.out (by
          obtain ⟨e0,e1,e2,e3,e4,e5,e6,e7,e8,e9,e10⟩:=(eqRl_iff ..).1 HQ.out
          have e4 : xk = yk:=by omega
          have e10 : xt = yt:=by omega
          rw [e0,e1,e2,e3,e4,e5,e6,e7,e8,e9,e10]))
        go_upto_region 6 with fail
        refine wp_region_held_drew (S:=fun W => Ok w [kCells b1 (o1 + j * 11) [.int .i64 xst,.int .i64 xc0,.int .i64 xr0,.int .i64 xnd,.int .u8 (xk : Nat),.int .i64 xx1,.int .i64 xy1,.int .i64 xx2,.int .i64 xy2,.int .i64 xgr,.int .u64 (xt : Nat)],kCells b2 (o2 + j * 11) [.int .i64 yst,.int .i64 yc0,.int .i64 yr0,.int .i64 ynd,.int .u8 (yk : Nat),.int .i64 yx1,.int .i64 yy1,.int .i64 yx2,.int .i64 yy2,.int .i64 ygr,.int .u64 (yt : Nat)]] W) (by kernel_rfl) H3.out.drew (fun hHeld => ?_)
        refine wpAnyH_take (i:=0) (v:=?vx46_0) rfl (by kernel_rfl) (by kernel_rfl) (by kernel_rfl) (fun _ _ _ h => h) (Or.inl ⟨by rfl,?hyx46_0⟩) (by assumption) ?restx46_0
        case hyx46_0 => (intro w hSw; have F:=Ok.sees hSw; clear hSw; simp only [sees,kCells,cellsFrom,Nat.add_zero,Nat.reduceAdd] at F; go_simp; try with_reducible rfl)
        try simp only [Act.put,List.setIfInBounds_toArray,List.set_cons_zero,List.set_cons_succ,List.getElem_toArray,List.getElem_cons_zero]
        refine wpAnyH_take (i:=1) (v:=?vx47_1) rfl (by kernel_rfl) (by kernel_rfl) (by kernel_rfl) (fun _ _ _ h => h) (Or.inl ⟨by rfl,?hyx47_1⟩) (by assumption) ?restx47_1
        case hyx47_1 => (intro w hSw; have F:=Ok.sees hSw; clear hSw; simp only [sees,kCells,cellsFrom,Nat.add_zero,Nat.reduceAdd] at F; go_simp; try with_reducible rfl)
        try simp only [Act.put,List.setIfInBounds_toArray,List.set_cons_zero,List.set_cons_succ,List.getElem_toArray,List.getElem_cons_succ,List.getElem_cons_zero]
        refine wpAnyH_take (i:=2) (v:=?vx48_2) rfl (by kernel_rfl) (by kernel_rfl) (by kernel_rfl) (fun _ _ _ h => h) (Or.inl ⟨by rfl,?hyx48_2⟩) (by assumption) ?restx48_2
        case hyx48_2 => (intro w hSw; have F:=Ok.sees hSw; clear hSw; simp only [sees,kCells,cellsFrom,Nat.add_zero,Nat.reduceAdd] at F; go_simp; try with_reducible rfl)
        try simp only [Act.put,List.setIfInBounds_toArray,List.set_cons_zero,List.set_cons_succ,List.getElem_toArray,List.getElem_cons_succ,List.getElem_cons_zero]
        refine wpAnyH_take (i:=3) (v:=?vx49_3) rfl (by kernel_rfl) (by kernel_rfl) (by kernel_rfl) (fun _ _ _ h => h) (Or.inl ⟨by rfl,?hyx49_3⟩) (by assumption) ?restx49_3
        case hyx49_3 => (intro w hSw; have F:=Ok.sees hSw; clear hSw; simp only [sees,kCells,cellsFrom,Nat.add_zero,Nat.reduceAdd] at F; go_simp; try with_reducible rfl)
        try simp only [Act.put,List.setIfInBounds_toArray,List.set_cons_zero,List.set_cons_succ,List.getElem_toArray,List.getElem_cons_succ,List.getElem_cons_zero]
        refine wpAnyH_take (i:=4) (v:=?vx50_4) rfl (by kernel_rfl) (by kernel_rfl) (by kernel_rfl) (fun _ _ _ h => h) (Or.inl ⟨by rfl,?hyx50_4⟩) (by assumption) ?restx50_4
        case hyx50_4 => (intro w hSw; have F:=Ok.sees hSw; clear hSw; simp only [sees,kCells,cellsFrom,Nat.add_zero,Nat.reduceAdd] at F; go_simp; try with_reducible rfl)
        try simp only [Act.put,List.setIfInBounds_toArray,List.set_cons_zero,List.set_cons_succ,List.getElem_toArray,List.getElem_cons_succ,List.getElem_cons_zero]
        refine wpAnyH_take (i:=5) (v:=?vx51_5) rfl (by kernel_rfl) (by kernel_rfl) (by kernel_rfl) (fun _ _ _ h => h) (Or.inl ⟨by rfl,?hyx51_5⟩) (by assumption) ?restx51_5
        case hyx51_5 => (intro w hSw; have F:=Ok.sees hSw; clear hSw; simp only [sees,kCells,cellsFrom,Nat.add_zero,Nat.reduceAdd] at F; go_simp; try with_reducible rfl)
        try simp only [Act.put,List.setIfInBounds_toArray,List.set_cons_zero,List.set_cons_succ,List.getElem_toArray,List.getElem_cons_succ,List.getElem_cons_zero]
        refine wpAnyH_take (i:=6) (v:=?vx52_6) rfl (by kernel_rfl) (by kernel_rfl) (by kernel_rfl) (fun _ _ _ h => h) (Or.inl ⟨by rfl,?hyx52_6⟩) (by assumption) ?restx52_6
        case hyx52_6 => (intro w hSw; have F:=Ok.sees hSw; clear hSw; simp only [sees,kCells,cellsFrom,Nat.add_zero,Nat.reduceAdd] at F; go_simp; try with_reducible rfl)
        try simp only [Act.put,List.setIfInBounds_toArray,List.set_cons_zero,List.set_cons_succ,List.getElem_toArray,List.getElem_cons_succ,List.getElem_cons_zero]
        refine wpAnyH_take (i:=7) (v:=?vx53_7) rfl (by kernel_rfl) (by kernel_rfl) (by kernel_rfl) (fun _ _ _ h => h) (Or.inl ⟨by rfl,?hyx53_7⟩) (by assumption) ?restx53_7
        case hyx53_7 => (intro w hSw; have F:=Ok.sees hSw; clear hSw; simp only [sees,kCells,cellsFrom,Nat.add_zero,Nat.reduceAdd] at F; go_simp; try with_reducible rfl)
        try simp only [Act.put,List.setIfInBounds_toArray,List.set_cons_zero,List.set_cons_succ,List.getElem_toArray,List.getElem_cons_succ,List.getElem_cons_zero]
        refine wpAnyH_take (i:=8) (v:=?vx54_8) rfl (by kernel_rfl) (by kernel_rfl) (by kernel_rfl) (fun _ _ _ h => h) (Or.inl ⟨by rfl,?hyx54_8⟩) (by assumption) ?restx54_8
        case hyx54_8 => (intro w hSw; have F:=Ok.sees hSw; clear hSw; simp only [sees,kCells,cellsFrom,Nat.add_zero,Nat.reduceAdd] at F; go_simp; try with_reducible rfl)
        try simp only [Act.put,List.setIfInBounds_toArray,List.set_cons_zero,List.set_cons_succ,List.getElem_toArray,List.getElem_cons_succ,List.getElem_cons_zero]
        refine wpAnyH_done (by kernel_rfl) ?_ _
        clear H3
        have H2:=Lib.hid hHeld
        clear hHeld
        go_wp2_with fail
        go_roundw
        case rel => exact ⟨j + 1,by omega,by go_num,HEE,H2.out.bel⟩
        case measure => simp [intOf]; omega
    · obtain rfl : n = j:=by omega
      have HE:=keep (show V = true by
        have h9:=HEQ.out
        rw [List.take_of_length_le (by rw [HN.out]; exact Nat.le_refl _),List.take_of_length_le (by rw [HM.out]; exact Nat.le_refl _)] at h9
        rw [← HV.out,h9]; exact eqL_yes _)
      go_wp2_with fail
      go_ret
      exact ⟨by rw [HE.out]; rfl,H2.out⟩
end Go.Proofs.YtmalncmdfmoccaaGreatDoor
