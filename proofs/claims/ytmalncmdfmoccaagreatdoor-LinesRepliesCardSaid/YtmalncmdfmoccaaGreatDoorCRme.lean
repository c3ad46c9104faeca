/- The kit's CopyReply. -/
import Derived.Test.YtmalncmdfmoccaaGreatDoorCRcp
import Derived.Test.YtmalncmdfmoccaaGreatDoorCHtl
namespace Go.Proofs.YtmalncmdfmoccaaGreatDoor
open Go Go.RowKit
theorem krow_far {w : World} {B : Nat} {e : TypeId} {size : Nat} {v : Value} {n : Nat} {xs : List Value} (h : w.ownsRow B e size v n xs) {k : Nat} (hk : k < B) : (kRow B e size v n xs).far (some k):=by
  show v.ownBlock = none ∨ v.ownBlock ≠ some k
  cases hv : v.ownBlock with
  | none => exact .inl rfl
  | some g =>
    have:=(h.lt g hv).1
    refine .inr fun e => ?_
    have:=Option.some.inj e
    omega
set_option maxRecDepth 100000 in
set_option maxHeartbeats 8000000 in
theorem copy_reply (c : Nat) (at_ : Int) (grid : List VlL) (TX : ByteArray) (evs : List EvD) (rls : List RlD) (ct : Int) (ga ea ra : Option Addr) (gc ec rc : Nat) (w : World) (h1 : RowsAt w ga 3 (grid.map vlRow)) (h2 : RowsAt w ea 9 (evs.map evRow)) (h3 : RowsAt w ra 11 (rls.map rlRow)) (b1 : grid.length ≤ 100000) (b2 : evs.length ≤ 100000) (b3 : rls.length ≤ 100000) :
    Calls Tryz.prog 8 #[.agg #[.int .u8 (c : Nat),.int .i64 at_,.slice ga grid.length gc,.string TX,.slice ea evs.length ec,.slice ra rls.length rc,.int .i64 ct]] w fun e w' => ∃ a1 c1 a2 c2 a3 c3,e = .returned (.agg #[.int .u8 (c : Nat),.int .i64 at_,.slice a1 grid.length c1,.string TX,.slice a2 evs.length c2,.slice a3 rls.length c3,.int .i64 ct]) ∧ RowsAt w' a1 3 (grid.map vlRow) ∧ RowsAt w' a2 9 (evs.map evRow) ∧ RowsAt w' a3 11 (rls.map rlRow) ∧ Below w.heap.size w w':=by
  have HC1:=keep (fun W (h : Below w.heap.size w W) => copy_vals grid ga gc W (h1.below h) b1)
  have HC2:=keep (fun W (h : Below w.heap.size w W) => copy_evs evs ea ec W (h2.below h) b2)
  have HC3:=keep (fun W (h : Below w.heap.size w W) => copy_rls rls ra rc W (h3.below h) b3)
  clear h1 h2 h3 b1 b2 b3
  obtain ⟨gn,hgn⟩ : ∃ n,grid.length = n:=⟨_,rfl⟩
  obtain ⟨en,hen⟩ : ∃ n,evs.length = n:=⟨_,rfl⟩
  obtain ⟨rn,hrn⟩ : ∃ n,rls.length = n:=⟨_,rfl⟩
  rw [hgn] at HC1
  rw [hen] at HC2
  rw [hrn] at HC3
  obtain ⟨P,hP⟩ : ∃ P : Ending → World → Prop,(fun (e : Ending) (w' : World) => ∃ a1 c1 a2 c2 a3 c3,e = .returned (.agg #[.int .u8 (c : Nat),.int .i64 at_,.slice a1 grid.length c1,.string TX,.slice a2 evs.length c2,.slice a3 rls.length c3,.int .i64 ct]) ∧ RowsAt w' a1 3 (grid.map vlRow) ∧ RowsAt w' a2 9 (evs.map evRow) ∧ RowsAt w' a3 11 (rls.map rlRow) ∧ Below w.heap.size w w') = P:=⟨_,rfl⟩
  rw [hP,hgn,hen,hrn]
  have HPP:=keep hP
  have HGN:=keep hgn
  have HEN:=keep hen
  have HRN:=keep hrn
  clear hP hgn hen hrn
  have H1:=Lib.hid (((Ok.start w).var w.heap.size 26 [.int .u8 (c : Nat),.int .i64 at_,.slice ga gn gc,.string TX,.slice ea en ec,.slice ra rn rc,.int .i64 ct] rfl).var (w.heap.size + 1) 26 [.int .u8 0,.int .i64 0,.slice none 0 0,.string ⟨#[]⟩,.slice none 0 0,.slice none 0 0,.int .i64 0] (by simp))
  go_enter Tryz.func8,Tryz.ntmps8
  go_upto_region 1 with fail
  generalize ((w.alloc (.cells #[.int .u8 (c : Nat),.int .i64 at_,.slice ga gn gc,.string TX,.slice ea en ec,.slice ra rn rc,.int .i64 ct] 26)).alloc (.cells #[.int .u8 0,.int .i64 0,.slice none 0 0,.string ⟨#[]⟩,.slice none 0 0,.slice none 0 0,.int .i64 0] 26)) = W2 at H1 ⊢
  have F3:=H1.out.sees
  simp only [sees,kVar,cellsAt,Nat.reduceAdd] at F3
  obtain ⟨⟨⟨z0,fz0⟩,c0_0,c0_1,c0_2,c0_3,c0_4,c0_5,c0_6,-⟩,⟨⟨z1,fz1⟩,c1_0,c1_1,c1_2,c1_3,c1_4,c1_5,c1_6,-⟩,-⟩:=F3
  have hlt : w.heap.size + 1 < W2.heap.size:=by omega
  refine wp_region_headed 10 (fun W => Ok w [kVar (w.heap.size + 1) 26 [.int .u8 0,.int .i64 0,.slice none 0 0,.string ⟨#[]⟩,.slice none 0 0,.slice none 0 0,.int .i64 0],kVar (w.heap.size) 26 [.int .u8 (c : Nat),.int .i64 at_,.slice ga gn gc,.string TX,.slice ea en ec,.slice ra rn rc,.int .i64 ct]] W) (by kernel_rfl) (by decide) H1.out.drew (fun hHeld => ?_)
  clear z0 fz0 c0_0 c0_1 c0_2 c0_3 c0_4 c0_5 c0_6 z1 fz1 c1_0 c1_1 c1_2 c1_3 c1_4 c1_5 c1_6
  have H4:=Lib.hid H1.out.drew
  clear H1
  have hlt2 : w.heap.size + 1 < W2.drew.heap.size:=hlt
  clear hlt
  generalize W2.drew = W5 at hHeld H4 hlt2 ⊢
  refine wpHead_take (i:=0) (v:=?vx1) (by kernel_rfl) rfl (by decide) (by kernel_rfl) (by kernel_rfl) (by kernel_rfl) (fun _ _ _ h => h) (Or.inl ⟨by rfl,?hyx1⟩) (by assumption) ?restx1
  case hyx1 => (intro w hSw; have F:=Ok.sees hSw; clear hSw; simp only [sees,kVar,cellsAt,Nat.reduceAdd] at F; go_simp; try with_reducible rfl)
  try simp only [Act.put,List.setIfInBounds_toArray,List.set_cons_zero,List.set_cons_succ,List.getElem_toArray,List.getElem_cons_zero]
  refine wpHead_take (i:=1) (v:=?vx2) (by kernel_rfl) rfl (by decide) (by kernel_rfl) (by kernel_rfl) (by kernel_rfl) (fun _ _ _ h => h) (Or.inl ⟨by rfl,?hyx2⟩) (by assumption) ?restx2
  case hyx2 => (intro w hSw; have F:=Ok.sees hSw; clear hSw; simp only [sees,kVar,cellsAt,Nat.reduceAdd] at F; go_simp; try with_reducible rfl)
  try simp only [Act.put,List.setIfInBounds_toArray,List.set_cons_zero,List.set_cons_succ,List.getElem_toArray,List.getElem_cons_succ,List.getElem_cons_zero]
  refine wpHead_take (i:=3) (v:=?vx3) (by kernel_rfl) rfl (by decide) (by kernel_rfl) (by kernel_rfl) (by kernel_rfl) (fun _ _ _ h => h) (Or.inl ⟨by rfl,?hyx3⟩) (by assumption) ?restx3
  case hyx3 => (intro w hSw; have F:=Ok.sees hSw; clear hSw; simp only [sees,kVar,cellsAt,Nat.reduceAdd] at F; go_simp; try with_reducible rfl)
  try simp only [Act.put,List.setIfInBounds_toArray,List.set_cons_zero,List.set_cons_succ,List.getElem_toArray,List.getElem_cons_succ,List.getElem_cons_zero]
  refine wpHead_take (i:=4) (v:=?vx4) (by kernel_rfl) rfl (by decide) (by kernel_rfl) (by kernel_rfl) (by kernel_rfl) (fun _ _ _ h => h) (Or.inl ⟨by rfl,?hyx4⟩) (by assumption) ?restx4
  case hyx4 => (intro w hSw; have F:=Ok.sees hSw; clear hSw; simp only [sees,kVar,cellsAt,Nat.reduceAdd] at F; go_simp; try with_reducible rfl)
  try simp only [Act.put,List.setIfInBounds_toArray,List.set_cons_zero,List.set_cons_succ,List.getElem_toArray,List.getElem_cons_succ,List.getElem_cons_zero]
  refine wpHead_take (i:=6) (v:=?vx5) (by kernel_rfl) rfl (by decide) (by kernel_rfl) (by kernel_rfl) (by kernel_rfl) (fun _ _ _ h => h) (Or.inl ⟨by rfl,?hyx5⟩) (by assumption) ?restx5
  case hyx5 => (intro w hSw; have F:=Ok.sees hSw; clear hSw; simp only [sees,kVar,cellsAt,Nat.reduceAdd] at F; go_simp; try with_reducible rfl)
  try simp only [Act.put,List.setIfInBounds_toArray,List.set_cons_zero,List.set_cons_succ,List.getElem_toArray,List.getElem_cons_succ,List.getElem_cons_zero]
  refine wpHead_take (i:=7) (v:=?vx6) (by kernel_rfl) rfl (by decide) (by kernel_rfl) (by kernel_rfl) (by kernel_rfl) (fun _ _ _ h => h) (Or.inl ⟨by rfl,?hyx6⟩) (by assumption) ?restx6
  case hyx6 => (intro w hSw; have F:=Ok.sees hSw; clear hSw; simp only [sees,kVar,cellsAt,Nat.reduceAdd] at F; go_simp; try with_reducible rfl)
  try simp only [Act.put,List.setIfInBounds_toArray,List.set_cons_zero,List.set_cons_succ,List.getElem_toArray,List.getElem_cons_succ,List.getElem_cons_zero]
  refine wpHead_only (i:=2) (by kernel_rfl) (by decide) rfl (fun K hK => ?_)
  go_simp
  refine (HC1.out _ H4.out.bel).mono ?_
  rintro e wc1 ⟨u,rfl,ho,hb⟩
  have ho:=ho.mono (show w.heap.size + 2 ≤ W5.heap.size by omega)
  obtain ⟨a1,c1,hu,-,-,-⟩:=rows_ownR vlRow (fun _ => rfl) ho HGN.out.symm
  subst hu
  rw [HGN.out] at ho ⊢
  have hlt3 : w.heap.size + 1 < wc1.heap.size:=by have:=hb.size; omega
  go_wp2_with fail
  have H6:=Lib.hid ((H4.out.below hb).add (kRow (w.heap.size + 2) 59 3 (.slice a1 gn c1) gn (grid.flatMap vlRow)) ho)
  clear ho hb hlt2 H4
  have hlt2:=hlt3
  clear hlt3
  refine hK.out _ _ (H6.out.tail) (fun hHeld => ?_)
  clear hK K
  try simp only [Act.put,List.setIfInBounds_toArray,List.set_cons_zero,List.set_cons_succ,List.getElem_toArray,List.getElem_cons_succ,List.getElem_cons_zero]
  refine wpHead_take (i:=9) (v:=?vx7) (by kernel_rfl) rfl (by decide) (by kernel_rfl) (by kernel_rfl) (by kernel_rfl) (fun _ _ _ h => h) (Or.inl ⟨by rfl,?hyx7⟩) (by assumption) ?restx7
  case hyx7 => (intro w hSw; have F:=Ok.sees hSw; clear hSw; simp only [sees,kVar,cellsAt,Nat.reduceAdd] at F; go_simp; try with_reducible rfl)
  try simp only [Act.put,List.setIfInBounds_toArray,List.set_cons_zero,List.set_cons_succ,List.getElem_toArray,List.getElem_cons_succ,List.getElem_cons_zero]
  refine wpHead_only (i:=5) (by kernel_rfl) (by decide) rfl (fun K hK => ?_)
  go_simp
  refine (HC2.out _ H6.out.bel).mono ?_
  rintro e wc2 ⟨u,rfl,ho,hb⟩
  have ho:=ho.mono (show w.heap.size + 2 ≤ wc1.heap.size by omega)
  obtain ⟨a2,c2,hu,-,-,-⟩:=rows_ownR evRow (fun _ => rfl) ho HEN.out.symm
  subst hu
  rw [HEN.out] at ho ⊢
  have hlt3 : w.heap.size + 1 < wc2.heap.size:=by have:=hb.size; omega
  go_wp2_with fail
  have H7:=Lib.hid ((H6.out.below hb).add (kRow (w.heap.size + 2) 71 9 (.slice a2 en c2) en (evs.flatMap evRow)) ho)
  clear ho hb hlt2 H6
  have hlt2:=hlt3
  clear hlt3
  refine hK.out _ _ (H7.out.tail.tail) (fun hHeld => ?_)
  clear hK K
  try simp only [Act.put,List.setIfInBounds_toArray,List.set_cons_zero,List.set_cons_succ,List.getElem_toArray,List.getElem_cons_succ,List.getElem_cons_zero]
  refine wpHead_only (i:=8) (by kernel_rfl) (by decide) rfl (fun K hK => ?_)
  go_simp
  refine (HC3.out _ H7.out.bel).mono ?_
  rintro e wc3 ⟨u,rfl,ho,hb⟩
  have ho:=ho.mono (show w.heap.size + 2 ≤ wc2.heap.size by omega)
  obtain ⟨a3,c3,hu,-,-,-⟩:=rows_ownR rlRow (fun _ => rfl) ho HRN.out.symm
  subst hu
  rw [HRN.out] at ho ⊢
  have hlt3 : w.heap.size + 1 < wc3.heap.size:=by have:=hb.size; omega
  go_wp2_with fail
  have H8:=Lib.hid ((H7.out.below hb).add (kRow (w.heap.size + 2) 76 11 (.slice a3 rn c3) rn (rls.flatMap rlRow)) ho)
  clear ho hb hlt2 H7
  have hlt2:=hlt3
  clear hlt3
  refine hK.out _ _ (H8.out.tail.tail.tail) (fun hHeld => ?_)
  clear hK K
  try simp only [Act.put,List.setIfInBounds_toArray,List.set_cons_zero,List.set_cons_succ,List.getElem_toArray,List.getElem_cons_succ,List.getElem_cons_zero]
  refine wpHead_rest (by kernel_rfl) ?_
  clear hHeld
  simp only [List.drop_succ_cons,List.drop_zero]
  have F9:=H8.out.sees
  simp only [sees,kVar,cellsAt,Nat.reduceAdd] at F9
  obtain ⟨-,-,-,⟨⟨z3,fz3⟩,c3_0,c3_1,c3_2,c3_3,c3_4,c3_5,c3_6,-⟩,⟨⟨z4,fz4⟩,c4_0,c4_1,c4_2,c4_3,c4_4,c4_5,c4_6,-⟩,-⟩:=F9
  go_upto_region 2 with fail
  have hfar : ∀ x ∈ [kRow (w.heap.size + 2) 76 11 (.slice a3 rn c3) rn (rls.flatMap rlRow),kRow (w.heap.size + 2) 71 9 (.slice a2 en c2) en (evs.flatMap evRow),kRow (w.heap.size + 2) 59 3 (.slice a1 gn c1) gn (grid.flatMap vlRow),kVar (w.heap.size + 1) 26 [.int .u8 0,.int .i64 0,.slice none 0 0,.string ⟨#[]⟩,.slice none 0 0,.slice none 0 0,.int .i64 0]],x.far (some (w.heap.size)):=fun x hx => by
    simp only [List.mem_cons,List.not_mem_nil,or_false] at hx
    rcases hx with rfl | rfl | rfl | rfl
    · exact krow_far (H8.out.get (kRow (w.heap.size + 2) 76 11 (.slice a3 rn c3) rn (rls.flatMap rlRow)) (by simp)) (by omega)
    · exact krow_far (H8.out.get (kRow (w.heap.size + 2) 71 9 (.slice a2 en c2) en (evs.flatMap evRow)) (by simp)) (by omega)
    · exact krow_far (H8.out.get (kRow (w.heap.size + 2) 59 3 (.slice a1 gn c1) gn (grid.flatMap vlRow)) (by simp)) (by omega)
    · show some _ ≠ some _; simp
  have H10:=Lib.hid (H8.out.drop [kVar (w.heap.size) 26 [.int .u8 (c : Nat),.int .i64 at_,.slice ga gn gc,.string TX,.slice ea en ec,.slice ra rn rc,.int .i64 ct],kRow (w.heap.size + 2) 76 11 (.slice a3 rn c3) rn (rls.flatMap rlRow),kRow (w.heap.size + 2) 71 9 (.slice a2 en c2) en (evs.flatMap evRow),kRow (w.heap.size + 2) 59 3 (.slice a1 gn c1) gn (grid.flatMap vlRow),kVar (w.heap.size + 1) 26 [.int .u8 0,.int .i64 0,.slice none 0 0,.string ⟨#[]⟩,.slice none 0 0,.slice none 0 0,.int .i64 0]] (by simp))
  have H11 : Hid (Ok w [kVar (w.heap.size) 26 [.int .u8 (c : Nat),.int .i64 at_,.slice a1 gn c1,.string TX,.slice a2 en c2,.slice a3 rn c3,.int .i64 ct],kRow (w.heap.size + 2) 76 11 (.slice a3 rn c3) rn (rls.flatMap rlRow),kRow (w.heap.size + 2) 71 9 (.slice a2 en c2) en (evs.flatMap evRow),kRow (w.heap.size + 2) 59 3 (.slice a1 gn c1) gn (grid.flatMap vlRow),kVar (w.heap.size + 1) 26 [.int .u8 0,.int .i64 0,.slice none 0 0,.string ⟨#[]⟩,.slice none 0 0,.slice none 0 0,.int .i64 0]] (((wc3.setCell ⟨w.heap.size,2,none⟩ (.slice a1 gn c1)).setCell ⟨w.heap.size,4,none⟩ (.slice a2 en c2)).setCell ⟨w.heap.size,5,none⟩ (.slice a3 rn c3))):=Lib.hid (((H10.out.set_ (i:=2) (u:=.slice a1 gn c1) (by omega) hfar).set_ (i:=4) (u:=.slice a2 en c2) (by omega) hfar).set_ (i:=5) (u:=.slice a3 rn c3) (by omega) hfar)
  clear z3 fz3 c3_0 c3_1 c3_2 c3_3 c3_4 c3_5 c3_6 z4 fz4 c4_0 c4_1 c4_2 c4_3 c4_4 c4_5 c4_6
  clear H8 H10 hfar
  generalize (((wc3.setCell ⟨w.heap.size,2,none⟩ (.slice a1 gn c1)).setCell ⟨w.heap.size,4,none⟩ (.slice a2 en c2)).setCell ⟨w.heap.size,5,none⟩ (.slice a3 rn c3)) = W12 at H11 ⊢
  have F13:=H11.out.sees
  simp only [sees,kVar,cellsAt,Nat.reduceAdd] at F13
  obtain ⟨⟨⟨z0,fz0⟩,c0_0,c0_1,c0_2,c0_3,c0_4,c0_5,c0_6,-⟩,-,-,-,⟨⟨z4,fz4⟩,c4_0,c4_1,c4_2,c4_3,c4_4,c4_5,c4_6,-⟩,-⟩:=F13
  go_wp2_with fail
  have hfar : ∀ x ∈ [kVar (w.heap.size) 26 [.int .u8 (c : Nat),.int .i64 at_,.slice a1 gn c1,.string TX,.slice a2 en c2,.slice a3 rn c3,.int .i64 ct],kRow (w.heap.size + 2) 76 11 (.slice a3 rn c3) rn (rls.flatMap rlRow),kRow (w.heap.size + 2) 71 9 (.slice a2 en c2) en (evs.flatMap evRow),kRow (w.heap.size + 2) 59 3 (.slice a1 gn c1) gn (grid.flatMap vlRow)],x.far (some (w.heap.size + 1)):=fun x hx => by
    simp only [List.mem_cons,List.not_mem_nil,or_false] at hx
    rcases hx with rfl | rfl | rfl | rfl
    · show some _ ≠ some _; simp
    · exact krow_far (H11.out.get (kRow (w.heap.size + 2) 76 11 (.slice a3 rn c3) rn (rls.flatMap rlRow)) (by simp)) (by omega)
    · exact krow_far (H11.out.get (kRow (w.heap.size + 2) 71 9 (.slice a2 en c2) en (evs.flatMap evRow)) (by simp)) (by omega)
    · exact krow_far (H11.out.get (kRow (w.heap.size + 2) 59 3 (.slice a1 gn c1) gn (grid.flatMap vlRow)) (by simp)) (by omega)
  have H14:=Lib.hid (H11.out.drop [kVar (w.heap.size + 1) 26 [.int .u8 0,.int .i64 0,.slice none 0 0,.string ⟨#[]⟩,.slice none 0 0,.slice none 0 0,.int .i64 0],kVar (w.heap.size) 26 [.int .u8 (c : Nat),.int .i64 at_,.slice a1 gn c1,.string TX,.slice a2 en c2,.slice a3 rn c3,.int .i64 ct],kRow (w.heap.size + 2) 76 11 (.slice a3 rn c3) rn (rls.flatMap rlRow),kRow (w.heap.size + 2) 71 9 (.slice a2 en c2) en (evs.flatMap evRow),kRow (w.heap.size + 2) 59 3 (.slice a1 gn c1) gn (grid.flatMap vlRow)] (by simp))
  have H15 : Hid (Ok w [kVar (w.heap.size + 1) 26 [.int .u8 (c : Nat),.int .i64 at_,.slice a1 gn c1,.string TX,.slice a2 en c2,.slice a3 rn c3,.int .i64 ct],kVar (w.heap.size) 26 [.int .u8 (c : Nat),.int .i64 at_,.slice a1 gn c1,.string TX,.slice a2 en c2,.slice a3 rn c3,.int .i64 ct],kRow (w.heap.size + 2) 76 11 (.slice a3 rn c3) rn (rls.flatMap rlRow),kRow (w.heap.size + 2) 71 9 (.slice a2 en c2) en (evs.flatMap evRow),kRow (w.heap.size + 2) 59 3 (.slice a1 gn c1) gn (grid.flatMap vlRow)] (((((((W12.setCell ⟨w.heap.size + 1,0,none⟩ (.int .u8 (c : Nat))).setCell ⟨w.heap.size + 1,1,none⟩ (.int .i64 at_)).setCell ⟨w.heap.size + 1,2,none⟩ (.slice a1 gn c1)).setCell ⟨w.heap.size + 1,3,none⟩ (.string TX)).setCell ⟨w.heap.size + 1,4,none⟩ (.slice a2 en c2)).setCell ⟨w.heap.size + 1,5,none⟩ (.slice a3 rn c3)).setCell ⟨w.heap.size + 1,6,none⟩ (.int .i64 ct))):=Lib.hid (((((((H14.out.set_ (i:=0) (u:=.int .u8 (c : Nat)) (by omega) hfar).set_ (i:=1) (u:=.int .i64 at_) (by omega) hfar).set_ (i:=2) (u:=.slice a1 gn c1) (by omega) hfar).set_ (i:=3) (u:=.string TX) (by omega) hfar).set_ (i:=4) (u:=.slice a2 en c2) (by omega) hfar).set_ (i:=5) (u:=.slice a3 rn c3) (by omega) hfar).set_ (i:=6) (u:=.int .i64 ct) (by omega) hfar)
  clear z0 fz0 c0_0 c0_1 c0_2 c0_3 c0_4 c0_5 c0_6 z4 fz4 c4_0 c4_1 c4_2 c4_3 c4_4 c4_5 c4_6
  clear H11 H14 hfar
  generalize (((((((W12.setCell ⟨w.heap.size + 1,0,none⟩ (.int .u8 (c : Nat))).setCell ⟨w.heap.size + 1,1,none⟩ (.int .i64 at_)).setCell ⟨w.heap.size + 1,2,none⟩ (.slice a1 gn c1)).setCell ⟨w.heap.size + 1,3,none⟩ (.string TX)).setCell ⟨w.heap.size + 1,4,none⟩ (.slice a2 en c2)).setCell ⟨w.heap.size + 1,5,none⟩ (.slice a3 rn c3)).setCell ⟨w.heap.size + 1,6,none⟩ (.int .i64 ct)) = W16 at H15 ⊢
  have F17:=H15.out.sees
  simp only [sees,kVar,cellsAt,Nat.reduceAdd] at F17
  obtain ⟨⟨⟨z0,fz0⟩,c0_0,c0_1,c0_2,c0_3,c0_4,c0_5,c0_6,-⟩,⟨⟨z1,fz1⟩,c1_0,c1_1,c1_2,c1_3,c1_4,c1_5,c1_6,-⟩,-,-,-,-⟩:=F17
  rw [← HPP.out]
  refine bodyPost_ret (v:=.agg #[.int .u8 (c : Nat),.int .i64 at_,.slice a1 gn c1,.string TX,.slice a2 en c2,.slice a3 rn c3,.int .i64 ct]) (by simp [results,Tryz.results8,go_sem,c0_0,c0_1,c0_2,c0_3,c0_4,c0_5,c0_6]) rfl ?_
  rw [HGN.out,HEN.out,HRN.out]
  exact ⟨a1,c1,a2,c2,a3,c3,rfl,(by obtain ⟨x,y,hx,-,-,h9⟩:=rows_ownR vlRow (fun _ => rfl) (H15.out.get (kRow (w.heap.size + 2) 59 3 (.slice a1 gn c1) gn (grid.flatMap vlRow)) (by simp)) HGN.out.symm; cases hx; exact h9),(by obtain ⟨x,y,hx,-,-,h9⟩:=rows_ownR evRow (fun _ => rfl) (H15.out.get (kRow (w.heap.size + 2) 71 9 (.slice a2 en c2) en (evs.flatMap evRow)) (by simp)) HEN.out.symm; cases hx; exact h9),(by obtain ⟨x,y,hx,-,-,h9⟩:=rows_ownR rlRow (fun _ => rfl) (H15.out.get (kRow (w.heap.size + 2) 76 11 (.slice a3 rn c3) rn (rls.flatMap rlRow)) (by simp)) HRN.out.symm; cases hx; exact h9),H15.out.bel⟩
end Go.Proofs.YtmalncmdfmoccaaGreatDoor
