/- Contracts of package val at errors. The table of the errors' names, off the row's condition. -/
import Derived.Test.YtmalncmdfmoccaaGreatDoorCOk
import Derived.Test.YtmalncmdfmoccaaGreatDoorCLexP
import Derived.Deep.DeepCutAuto
import Derived.Lib.LaidTab
import Derived.Stop.LaidErr
import Derived.LaidLaws
import Derived.LaidSub
namespace Go.Proofs.YtmalncmdfmoccaaGreatDoor
section
open Go.RowKit
def allNames : List (List UInt8):=[[],[35,68,73,86,47,48,33],[35,86,65,76,85,69,33],[35,78,85,77,33],[35,78,47,65],[35,82,69,70,33],[35,67,89,67,76,69,33],[35,68,69,78,73,69,68]]
def Words (w : World) : Prop:=0 + 0 < w.heap.size ∧ ∀ i < 8,w.cell? ⟨0,i,none⟩ = some (.string ⟨(allNames[i]?.getD []).toArray⟩)
theorem Words.below {w w' : World} (h : Words w) (hb : Below w.heap.size w w') : Words w' :=
  ⟨Nat.lt_of_lt_of_le h.1 hb.size,fun i hi => cell_step hb (h.2 i hi)⟩
theorem fail_code (c : Int) (h1 : 1 ≤ c) (h2 : c ≤ 7) (w : World) :
    Calls Tryz.prog 54 #[.int .i64 c] w fun e w' => e = .returned (.agg #[.int .u8 4,.int .i64 c,.string ⟨#[]⟩]) ∧ Below w.heap.size w w':=by
  have H0:=Lib.hid (Ok.start w)
  have hc : ¬ c < 1:=by omega
  have hc2 : ¬ c > 7:=by omega
  go_enter Tryz.func54,Tryz.ntmps54
  go_upto_region 1 with fail
  have H1:=Lib.hid (H0.out.var w.heap.size 59 [.int .u8 0,.int .i64 0,.string ⟨#[]⟩] rfl)
  clear H0
  generalize (w.alloc (.cells #[.int .u8 0,.int .i64 0,.string ⟨#[]⟩] 59)) = W2 at H1 ⊢
  have F3:=H1.out.sees
  simp only [sees,kVar,cellsAt,Nat.reduceAdd] at F3
  obtain ⟨⟨⟨z0,fz0⟩,c0_0,c0_1,c0_2,-⟩,-⟩:=F3
  go_wp2_with fail
  have hK:=H1.out.get (kVar (w.heap.size) 59 [.int .u8 0,.int .i64 0,.string ⟨#[]⟩]) (by simp)
  have hB:=H1.out.bel
  have hE:=((((show Blk W2 (w.heap.size) 59 _ from hK).set_ 0 (.int .u8 4)).set_ 1 (.int .i64 c)).set_ 2 (.string ⟨#[]⟩))
  have r0:=hE.cell 0
  have r1:=hE.cell 1
  have r2:=hE.cell 2
  simp at r0 r1 r2
  refine bodyPost_ret (v:=.agg #[.int .u8 4,.int .i64 c,.string ⟨#[]⟩]) (by simp [results,Tryz.results54,go_sem,r0,r1,r2]) rfl ⟨rfl,(((hB.setCell (by simp) _).setCell (by simp) _).setCell (by simp) _)⟩
set_option maxRecDepth 100000 in
set_option maxHeartbeats 1000000 in
theorem check_err (c : Int) (h1 : 1 ≤ c) (h2 : c ≤ 6) (w : World) :
    Calls Tryz.prog 53 #[.agg #[.int .u8 4,.int .i64 c,.string ⟨#[]⟩]] w fun e w' => e = .returned (.int .i64 0) ∧ Below w.heap.size w w':=by
  have H1:=Lib.hid ((Ok.start w).alloc w.heap.size 59 [.int .u8 4,.int .i64 c,.string ⟨#[]⟩] rfl)
  have hc : (1 : Int) ≤ c:=h1
  go_enter Tryz.func53,Tryz.ntmps53
  go_wp2_with fail
  generalize (w.alloc (.cells #[.int .u8 4,.int .i64 c,.string ⟨#[]⟩] 59)) = W2 at H1 ⊢
  go_ret
  exact ⟨rfl,H1.out.bel⟩
set_option maxRecDepth 100000 in
set_option maxHeartbeats 1000000 in
theorem show_err (c : Int) (h1 : 1 ≤ c) (h2 : c ≤ 7) (w : World) (hw : Words w) :
    Calls Tryz.prog 56 #[.agg #[.int .u8 4,.int .i64 c,.string ⟨#[]⟩]] w fun e w' => e = .returned (.string ⟨(allNames[c.toNat]?.getD []).toArray⟩) ∧ Below w.heap.size w w':=by
  have HW:=Lib.hid hw
  clear hw
  have H1:=Lib.hid ((Ok.start w).alloc w.heap.size 59 [.int .u8 4,.int .i64 c,.string ⟨#[]⟩] rfl)
  by_cases h7 : c = 7
  · subst h7
    go_enter Tryz.func56,Tryz.ntmps56
    go_wp2_with fail
    generalize (w.alloc (.cells #[.int .u8 4,.int .i64 7,.string ⟨#[]⟩] 59)) = W2 at H1 ⊢
    refine wp_region_held_drew (S:=fun W => Ok w [kBlk (w.heap.size) 59 [.int .u8 4,.int .i64 7,.string ⟨#[]⟩]] W) (by kernel_rfl) H1.out.drew (fun hHeld => ?_)
    refine wpAnyH_take (i:=0) (v:=?vx1_0) rfl (by kernel_rfl) (by kernel_rfl) (by kernel_rfl) (fun _ _ _ h => h) (Or.inl ⟨by rfl,?hyx1_0⟩) (by assumption) ?restx1_0
    case hyx1_0 => (intro w hSw; have F:=Ok.sees hSw; clear hSw; simp only [sees,kBlk,cellsAt,Nat.reduceAdd] at F; go_simp; try with_reducible rfl)
    try simp only [Act.put,List.setIfInBounds_toArray,List.set_cons_zero,List.set_cons_succ,List.getElem_toArray,List.getElem_cons_zero]
    refine wpAnyH_ready (rs:=[1]) (by kernel_rfl) (by simp) ?_
    refine AllReadyH.cons rfl (fun K hK => ?_) AllReadyH.nil
    go_simp
    refine (fail_code 7 (by decide) (by decide) _).mono ?_
    rintro e w4 ⟨rfl,hb5⟩
    go_wp2_with fail
    refine hK.out _ _ (hHeld.below hb5) (fun hHeld => ?_)
    clear hK K
    try simp only [Act.put,List.setIfInBounds_toArray,List.set_cons_zero,List.set_cons_succ,List.getElem_toArray,List.getElem_cons_succ,List.getElem_cons_zero]
    refine wpAnyH_take (i:=2) (v:=?vx2_2) rfl (by kernel_rfl) (by kernel_rfl) (by kernel_rfl) (fun _ _ _ h => h) (Or.inl ⟨by rfl,?hyx2_2⟩) (by assumption) ?restx2_2
    case hyx2_2 => (intro w hSw; have F:=Ok.sees hSw; clear hSw; simp only [sees,kBlk,cellsAt,Nat.reduceAdd] at F; go_simp; try with_reducible rfl)
    try simp only [Act.put,List.setIfInBounds_toArray,List.set_cons_zero,List.set_cons_succ,List.getElem_toArray,List.getElem_cons_succ,List.getElem_cons_zero]
    refine wpAnyH_take (i:=3) (v:=?vx3_3) rfl (by kernel_rfl) (by kernel_rfl) (by kernel_rfl) (fun _ _ _ h => h) (Or.inl ⟨by rfl,?hyx3_3⟩) (by assumption) ?restx3_3
    case hyx3_3 => (intro w hSw; have F:=Ok.sees hSw; clear hSw; simp only [sees,kBlk,cellsAt,Nat.reduceAdd] at F; go_simp; try with_reducible rfl)
    try simp only [Act.put,List.setIfInBounds_toArray,List.set_cons_zero,List.set_cons_succ,List.getElem_toArray,List.getElem_cons_succ,List.getElem_cons_zero]
    refine wpAnyH_take (i:=4) (v:=undef) rfl (by kernel_rfl) (by kernel_rfl) (by kernel_rfl) (fun _ _ _ h => h) (Or.inr ⟨by rfl,rfl⟩) (by assumption) ?_
    try simp only [Act.put,List.setIfInBounds_toArray,List.set_cons_zero,List.set_cons_succ,List.getElem_toArray,List.getElem_cons_succ,List.getElem_cons_zero]
    refine wpAnyH_take (i:=5) (v:=undef) rfl (by kernel_rfl) (by kernel_rfl) (by kernel_rfl) (fun _ _ _ h => h) (Or.inr ⟨by rfl,rfl⟩) (by assumption) ?_
    try simp only [Act.put,List.setIfInBounds_toArray,List.set_cons_zero,List.set_cons_succ,List.getElem_toArray,List.getElem_cons_succ,List.getElem_cons_zero]
    refine wpAnyH_take (i:=6) (v:=undef) rfl (by kernel_rfl) (by kernel_rfl) (by kernel_rfl) (fun _ _ _ h => h) (Or.inr ⟨by rfl,rfl⟩) (by assumption) ?_
    try simp only [Act.put,List.setIfInBounds_toArray,List.set_cons_zero,List.set_cons_succ,List.getElem_toArray,List.getElem_cons_succ,List.getElem_cons_zero]
    refine wpAnyH_take (i:=7) (v:=undef) rfl (by kernel_rfl) (by kernel_rfl) (by kernel_rfl) (fun _ _ _ h => h) (Or.inr ⟨by rfl,rfl⟩) (by assumption) ?_
    try simp only [Act.put,List.setIfInBounds_toArray,List.set_cons_zero,List.set_cons_succ,List.getElem_toArray,List.getElem_cons_succ,List.getElem_cons_zero]
    refine wpAnyH_take (i:=8) (v:=undef) rfl (by kernel_rfl) (by kernel_rfl) (by kernel_rfl) (fun _ _ _ h => h) (Or.inr ⟨by rfl,rfl⟩) (by assumption) ?_
    try simp only [Act.put,List.setIfInBounds_toArray,List.set_cons_zero,List.set_cons_succ,List.getElem_toArray,List.getElem_cons_succ,List.getElem_cons_zero]
    refine wpAnyH_take (i:=9) (v:=undef) rfl (by kernel_rfl) (by kernel_rfl) (by kernel_rfl) (fun _ _ _ h => h) (Or.inr ⟨by rfl,rfl⟩) (by assumption) ?_
    try simp only [Act.put,List.setIfInBounds_toArray,List.set_cons_zero,List.set_cons_succ,List.getElem_toArray,List.getElem_cons_succ,List.getElem_cons_zero]
    refine wpAnyH_take (i:=10) (v:=undef) rfl (by kernel_rfl) (by kernel_rfl) (by kernel_rfl) (fun _ _ _ h => h) (Or.inr ⟨by rfl,rfl⟩) (by assumption) ?_
    try simp only [Act.put,List.setIfInBounds_toArray,List.set_cons_zero,List.set_cons_succ,List.getElem_toArray,List.getElem_cons_succ,List.getElem_cons_zero]
    refine wpAnyH_take (i:=11) (v:=undef) rfl (by kernel_rfl) (by kernel_rfl) (by kernel_rfl) (fun _ _ _ h => h) (Or.inr ⟨by rfl,rfl⟩) (by assumption) ?_
    try simp only [Act.put,List.setIfInBounds_toArray,List.set_cons_zero,List.set_cons_succ,List.getElem_toArray,List.getElem_cons_succ,List.getElem_cons_zero]
    refine wpAnyH_take (i:=12) (v:=?vx12_12) rfl (by kernel_rfl) (by kernel_rfl) (by kernel_rfl) (fun _ _ _ h => h) (Or.inl ⟨by rfl,?hyx12_12⟩) (by assumption) ?restx12_12
    case hyx12_12 => (intro w hSw; have F:=Ok.sees hSw; clear hSw; simp only [sees,kBlk,cellsAt,Nat.reduceAdd] at F; go_simp; try with_reducible rfl)
    try simp only [Act.put,List.setIfInBounds_toArray,List.set_cons_zero,List.set_cons_succ,List.getElem_toArray,List.getElem_cons_succ,List.getElem_cons_zero]
    refine wpAnyH_done (by kernel_rfl) ?_ _
    clear H1
    have H6:=Lib.hid hHeld
    clear hHeld
    have hw2:=Words.below HW.out (below_step (Below.refl _ _) H6.out.bel)
    have hcell:=hw2.2 7 (by omega)
    have hlt:=hw2.1
    clear hw2
    have F7:=H6.out.sees
    simp only [sees,kBlk,cellsAt,Nat.reduceAdd] at F7
    obtain ⟨⟨z0,c0_0,c0_1,c0_2,-⟩,-⟩:=F7
    go_wp2_with fail
    go_ret
    exact ⟨rfl,H6.out.bel⟩
  · have h6 : c ≤ 6:=by omega
    have h7b : (c == 7) = false:=by simpa using h7
    go_enter Tryz.func56,Tryz.ntmps56
    go_wp2_with fail
    generalize (w.alloc (.cells #[.int .u8 4,.int .i64 c,.string ⟨#[]⟩] 59)) = W2 at H1 ⊢
    refine wp_region_held_drew (S:=fun W => Ok w [kBlk (w.heap.size) 59 [.int .u8 4,.int .i64 c,.string ⟨#[]⟩]] W) (by kernel_rfl) H1.out.drew (fun hHeld => ?_)
    refine wpAnyH_take (i:=0) (v:=?vx13_0) rfl (by kernel_rfl) (by kernel_rfl) (by kernel_rfl) (fun _ _ _ h => h) (Or.inl ⟨by rfl,?hyx13_0⟩) (by assumption) ?restx13_0
    case hyx13_0 => (intro w hSw; have F:=Ok.sees hSw; clear hSw; simp only [sees,kBlk,cellsAt,Nat.reduceAdd] at F; go_simp; try with_reducible rfl)
    try simp only [Act.put,List.setIfInBounds_toArray,List.set_cons_zero,List.set_cons_succ,List.getElem_toArray,List.getElem_cons_zero]
    refine wpAnyH_ready (rs:=[1]) (by kernel_rfl) (by simp) ?_
    refine AllReadyH.cons rfl (fun K hK => ?_) AllReadyH.nil
    go_simp
    refine (fail_code 7 (by decide) (by decide) _).mono ?_
    rintro e w4 ⟨rfl,hb5⟩
    go_wp2_with fail
    refine hK.out _ _ (hHeld.below hb5) (fun hHeld => ?_)
    clear hK K
    try simp only [Act.put,List.setIfInBounds_toArray,List.set_cons_zero,List.set_cons_succ,List.getElem_toArray,List.getElem_cons_succ,List.getElem_cons_zero]
    refine wpAnyH_take (i:=2) (v:=?vx14_2) rfl (by kernel_rfl) (by kernel_rfl) (by kernel_rfl) (fun _ _ _ h => h) (Or.inl ⟨by rfl,?hyx14_2⟩) (by assumption) ?restx14_2
    case hyx14_2 => (intro w hSw; have F:=Ok.sees hSw; clear hSw; simp only [sees,kBlk,cellsAt,Nat.reduceAdd] at F; go_simp; try with_reducible rfl)
    try simp only [Act.put,List.setIfInBounds_toArray,List.set_cons_zero,List.set_cons_succ,List.getElem_toArray,List.getElem_cons_succ,List.getElem_cons_zero]
    refine wpAnyH_take (i:=3) (v:=?vx15_3) rfl (by kernel_rfl) (by kernel_rfl) (by kernel_rfl) (fun _ _ _ h => h) (Or.inl ⟨by rfl,?hyx15_3⟩) (by assumption) ?restx15_3
    case hyx15_3 => (intro w hSw; have F:=Ok.sees hSw; clear hSw; simp only [sees,kBlk,cellsAt,Nat.reduceAdd] at F; go_simp; try with_reducible rfl)
    try simp only [Act.put,List.setIfInBounds_toArray,List.set_cons_zero,List.set_cons_succ,List.getElem_toArray,List.getElem_cons_succ,List.getElem_cons_zero]
    refine wpAnyH_take (i:=4) (v:=?vx16_4) rfl (by kernel_rfl) (by kernel_rfl) (by kernel_rfl) (fun _ _ _ h => h) (Or.inl ⟨by rfl,?hyx16_4⟩) (by assumption) ?restx16_4
    case hyx16_4 => (intro w hSw; have F:=Ok.sees hSw; clear hSw; simp only [sees,kBlk,cellsAt,Nat.reduceAdd] at F; go_simp; try with_reducible rfl)
    try simp only [Act.put,List.setIfInBounds_toArray,List.set_cons_zero,List.set_cons_succ,List.getElem_toArray,List.getElem_cons_succ,List.getElem_cons_zero]
    refine wpAnyH_take (i:=5) (v:=?vx17_5) rfl (by kernel_rfl) (by kernel_rfl) (by kernel_rfl) (fun _ _ _ h => h) (Or.inl ⟨by rfl,?hyx17_5⟩) (by assumption) ?restx17_5
    case hyx17_5 => (intro w hSw; have F:=Ok.sees hSw; clear hSw; simp only [sees,kBlk,cellsAt,Nat.reduceAdd] at F; go_simp; try with_reducible rfl)
    try simp only [Act.put,List.setIfInBounds_toArray,List.set_cons_zero,List.set_cons_succ,List.getElem_toArray,List.getElem_cons_succ,List.getElem_cons_zero]
    refine wpAnyH_take (i:=6) (v:=?vx18_6) rfl (by kernel_rfl) (by kernel_rfl) (by kernel_rfl) (fun _ _ _ h => h) (Or.inl ⟨by rfl,?hyx18_6⟩) (by assumption) ?restx18_6
    case hyx18_6 => (intro w hSw; have F:=Ok.sees hSw; clear hSw; simp only [sees,kBlk,cellsAt,Nat.reduceAdd] at F; go_simp; try with_reducible rfl)
    try simp only [Act.put,List.setIfInBounds_toArray,List.set_cons_zero,List.set_cons_succ,List.getElem_toArray,List.getElem_cons_succ,List.getElem_cons_zero]
    refine wpAnyH_take (i:=7) (v:=?vx19_7) rfl (by kernel_rfl) (by kernel_rfl) (by kernel_rfl) (fun _ _ _ h => h) (Or.inl ⟨by rfl,?hyx19_7⟩) (by assumption) ?restx19_7
    case hyx19_7 => (intro w hSw; have F:=Ok.sees hSw; clear hSw; simp only [sees,kBlk,cellsAt,Nat.reduceAdd] at F; go_simp; try with_reducible rfl)
    try simp only [Act.put,List.setIfInBounds_toArray,List.set_cons_zero,List.set_cons_succ,List.getElem_toArray,List.getElem_cons_succ,List.getElem_cons_zero]
    refine wpAnyH_take (i:=8) (v:=?vx20_8) rfl (by kernel_rfl) (by kernel_rfl) (by kernel_rfl) (fun _ _ _ h => h) (Or.inl ⟨by rfl,?hyx20_8⟩) (by assumption) ?restx20_8
    case hyx20_8 => (intro w hSw; have F:=Ok.sees hSw; clear hSw; simp only [sees,kBlk,cellsAt,Nat.reduceAdd] at F; go_simp; try with_reducible rfl)
    try simp only [Act.put,List.setIfInBounds_toArray,List.set_cons_zero,List.set_cons_succ,List.getElem_toArray,List.getElem_cons_succ,List.getElem_cons_zero]
    refine wpAnyH_ready (rs:=[9]) (by kernel_rfl) (by simp) ?_
    refine AllReadyH.cons rfl (fun K hK => ?_) AllReadyH.nil
    go_simp
    refine (check_err c h1 h6 _).mono ?_
    rintro e w6 ⟨rfl,hb7⟩
    go_wp2_with fail
    refine hK.out _ _ (hHeld.below hb7) (fun hHeld => ?_)
    clear hK K
    try simp only [Act.put,List.setIfInBounds_toArray,List.set_cons_zero,List.set_cons_succ,List.getElem_toArray,List.getElem_cons_succ,List.getElem_cons_zero]
    refine wpAnyH_take (i:=10) (v:=?vx21_10) rfl (by kernel_rfl) (by kernel_rfl) (by kernel_rfl) (fun _ _ _ h => h) (Or.inl ⟨by rfl,?hyx21_10⟩) (by assumption) ?restx21_10
    case hyx21_10 => (intro w hSw; have F:=Ok.sees hSw; clear hSw; simp only [sees,kBlk,cellsAt,Nat.reduceAdd] at F; go_simp; try with_reducible rfl)
    try simp only [Act.put,List.setIfInBounds_toArray,List.set_cons_zero,List.set_cons_succ,List.getElem_toArray,List.getElem_cons_succ,List.getElem_cons_zero]
    refine wpAnyH_take (i:=11) (v:=?vx22_11) rfl (by kernel_rfl) (by kernel_rfl) (by kernel_rfl) (fun _ _ _ h => h) (Or.inl ⟨by rfl,?hyx22_11⟩) (by assumption) ?restx22_11
    case hyx22_11 => (intro w hSw; have F:=Ok.sees hSw; clear hSw; simp only [sees,kBlk,cellsAt,Nat.reduceAdd] at F; go_simp; try with_reducible rfl)
    try simp only [Act.put,List.setIfInBounds_toArray,List.set_cons_zero,List.set_cons_succ,List.getElem_toArray,List.getElem_cons_succ,List.getElem_cons_zero]
    refine wpAnyH_take (i:=12) (v:=?vx23_12) rfl (by kernel_rfl) (by kernel_rfl) (by kernel_rfl) (fun _ _ _ h => h) (Or.inl ⟨by rfl,?hyx23_12⟩) (by assumption) ?restx23_12
    case hyx23_12 => (intro w hSw; have F:=Ok.sees hSw; clear hSw; simp only [sees,kBlk,cellsAt,Nat.reduceAdd] at F; go_simp; try with_reducible rfl)
    try simp only [Act.put,List.setIfInBounds_toArray,List.set_cons_zero,List.set_cons_succ,List.getElem_toArray,List.getElem_cons_succ,List.getElem_cons_zero]
    refine wpAnyH_done (by kernel_rfl) ?_ _
    clear H1
    have H8:=Lib.hid hHeld
    clear hHeld
    have hw2:=Words.below HW.out (below_step (Below.refl _ _) H8.out.bel)
    have hcell:=hw2.2 c.toNat (by omega)
    have hlt:=hw2.1
    have hct : ((c.toNat : Nat) : Int) = c:=by omega
    have hc7 : c < 8:=by omega
    clear hw2
    have F9:=H8.out.sees
    simp only [sees,kBlk,cellsAt,Nat.reduceAdd] at F9
    obtain ⟨⟨z0,c0_0,c0_1,c0_2,-⟩,-⟩:=F9
    go_wp2_with fail
    go_ret
    exact ⟨rfl,H8.out.bel⟩
end
section
open Go.RowKit
def strTab {H : Type} (zs : List (List UInt8)) : DataW H:=.agg (zs.map fun z => .lit (.string z))
theorem words_datum : (Rows.laid_louvre_val_words : DataW Unit) = strTab allNames:=by kernel_rfl
theorem words_name : Tryz.prog.globalNamed "louvre/val.words" = some 0 := by kernel_rfl
theorem words_type : (Tryz.prog.globals[0]?).map (·.type) = some 144:=by kernel_rfl
theorem words_cells : Tryz.prog.cellsOf 144 = 8:=by kernel_rfl
theorem word_cell : Tryz.prog.cellsOf 9 = 1:=by kernel_rfl
theorem cells_of_strs {H : Type} {enc : TypeId × Value → H} {P : Program} {w : World} {base : Nat} {sp : Nat → Bool} {held : Bool} {fuel : Nat} {t e : TypeId} {n : Nat} {cs : List Value} {zs : List (List UInt8)} {p : List MemPlace}
    (ht : P.underlying t = some (.array n e)) (he : P.underlying e = some .string) (hce : P.cellsOf e = 1) (hct : P.cellsOf t = n)
    (h : DataW.trod enc P w base sp held fuel t cs = some (strTab zs,p)) : cs = zs.map fun z => Value.string ⟨z.toArray⟩:=by
  cases fuel with
  | zero => simp [DataW.trod] at h
  | succ fuel =>
    simp only [DataW.trod,ht,hce,hct,Nat.mul_one] at h
    split at h
    · rename_i hl
      obtain ⟨xs,hm,hx⟩:=Option.map_eq_some_iff.1 h
      have hxs : xs.map (·.1) = zs.map fun z => (DataW.lit (.string z) : DataW H):=by
        have:=congrArg Prod.fst hx
        simpa [strTab] using this
      have hxl : xs.length = n:=by simpa using Lib.mapM_length hm
      have hzl : zs.length = n:=by
        have:=congrArg List.length hxs
        simp at this
        omega
      apply List.ext_getElem?
      intro i
      by_cases hi : i < n
      · obtain ⟨b,hb,hf⟩:=Lib.mapM_at hm i i (by simp [hi])
        have h2 : (xs.map (·.1))[i]? = some b.1:=by simp [hb]
        rw [hxs] at h2
        simp only [List.getElem?_map,Option.map_eq_some_iff] at h2
        obtain ⟨z,hz,hzb⟩:=h2
        have h1 : cs[i]? = some (.string ⟨z.toArray⟩):=by
          obtain ⟨b',hc,hb',_⟩:=DataW.trod_string he hf
          have h3:=hzb.symm ▸ congrArg Prod.fst hb'
          simp only [DataW.lit.injEq,Lit.string.injEq] at h3
          have h4 : b' = ⟨z.toArray⟩:=by rw [h3]
          rw [← h4]
          have:=congrArg (·[0]?) hc
          simpa [List.getElem?_take,List.getElem?_drop] using this
        simp [h1,hz]
      · rw [List.getElem?_eq_none (by omega),List.getElem?_eq_none (by simp; omega)]
    · cases h
theorem words_of {W : World} {l : List (String × DataW Unit)} (h : laidMetH Tryz.prog l W) (hl : l.filter (fun x => x.1 == "louvre/val.words") = [("louvre/val.words", Rows.laid_louvre_val_words)]) (_hS : W.ShapedOpen Tryz.prog) : Words W := by
  have h2 := h.filter (fun x => x.1 == "louvre/val.words")
  rw [hl,words_datum] at h2
  obtain ⟨ps,⟨g',t',cs,fuel,p,q,hg',ht',hvar,hd,_,_⟩,_⟩:=((laidMetH_iff ..).1 h2).1
  obtain rfl:=Option.some.inj (words_name.symm.trans hg')
  obtain rfl:=Option.some.inj (words_type.symm.trans ht')
  have hcs:=cells_of_strs Tryz.underlying144 Tryz.underlying9 word_cell words_cells hd
  have hc : ∀ i < 8,W.cell? ⟨0,i,none⟩ = some (.string ⟨(allNames[i]?.getD []).toArray⟩):=by
    intro i hi
    have h9:=World.var?_cell words_name hvar i
    rw [← Array.getElem?_toList,hcs] at h9
    rw [h9]
    have h8 : allNames.length = 8:=by decide
    simp [List.getElem?_eq_getElem (show i < allNames.length by omega)]
  refine ⟨?_,hc⟩
  have:=World.block_lt_of_cell? W _ (hc 0 (by decide))
  simpa using this
end
end Go.Proofs.YtmalncmdfmoccaaGreatDoor
