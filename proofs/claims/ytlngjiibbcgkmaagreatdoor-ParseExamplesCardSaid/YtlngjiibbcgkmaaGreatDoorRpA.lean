/- The reference's parser: what its object holds; next and fault. -/
import Derived.Test.YtlngjiibbcgkmaaGreatDoorParA
import Derived.Test.YtlngjiibbcgkmaaGreatDoorOk
namespace Go.Proofs.YtlngjiibbcgkmaaGreatDoor
open Go.RowKit
def RSt (w1 : World) (ps : List Pers) (pb : Nat) (S : ByteArray) (all : List Tk) (i : Nat) (ns : List Nd) (a c : Int) (w : World) : Prop :=
 w1.heap.size ≤ pb ∧ (∀ x ∈ ps,x.far (some pb)) ∧ ∃ la lc tv,TokAt w1 la lc all ∧ OkRow w1 (kVar pb 62 [.string S,.slice la all.length lc,.int .i64 (i : Int),tv,.int .i64 a,.int .i64 c] :: ps) 32 11 tv ns.length (ndCells ns) w
section
variable {w1 w w' : World} {ps : List Pers} {pb i : Nat} {S : ByteArray} {all : List Tk} {ns : List Nd} {a c : Int}
theorem RSt.below (h : RSt w1 ps pb S all i ns a c w) (hb : Below w.heap.size w w') : RSt w1 ps pb S all i ns a c w':=by
 obtain ⟨h1,h2,la,lc,tv,h3,h4⟩:=h
 exact ⟨h1,h2,la,lc,tv,h3,h4.below hb⟩
theorem RSt.alloc (h : RSt w1 ps pb S all i ns a c w) (t : TypeId) (cs : List Value) : RSt w1 (kBlk w.heap.size t cs :: ps) pb S all i ns a c (w.alloc (.cells cs.toArray t)):=by
 obtain ⟨h1,h2,la,lc,tv,h3,h4⟩:=h
 have hlt : pb < w.heap.size:=h4.ok.sees.1.1.1
 refine ⟨h1,fun x hx => ?_,la,lc,tv,h3,(h4.alloc w.heap.size t cs rfl).swap⟩
 rcases List.mem_cons.1 hx with rfl | hx
 ·show some w.heap.size ≠ some pb
  simp; omega
 ·exact h2 x hx
theorem RSt.alloc_obj (h : RSt w1 ps pb S all i ns a c w) (o : Obj) : RSt w1 ps pb S all i ns a c (w.alloc o):=h.below ((Below.refl _ _).alloc (Nat.le_refl _) _)
theorem RSt.tail {x : Pers} (h : RSt w1 (x :: ps) pb S all i ns a c w) : RSt w1 ps pb S all i ns a c w:=by
 obtain ⟨h1,h2,la,lc,tv,h3,h4⟩:=h
 exact ⟨h1,fun y hy => h2 y (List.mem_cons_of_mem _ hy),la,lc,tv,h3,h4.drop _ (by intro z hz; simp at hz ⊢; rcases hz with h | h <;> simp [h])⟩
theorem RSt.sees (h : RSt w1 ps pb S all i ns a c w) : pb < w.heap.size ∧ Go.Proofs.YtlngjiibbcgkmaaGreatDoor.sees ps w:=by
 obtain ⟨h1,h2,la,lc,tv,h3,h4⟩:=h
 have:=h4.ok.sees
 exact ⟨this.1.1.1,this.2⟩
theorem RSt.bel (h : RSt w1 ps pb S all i ns a c w) : Below w1.heap.size w1 w:=by
 obtain ⟨h1,h2,la,lc,tv,h3,h4⟩:=h
 exact h4.ok.bel
theorem RSt.lt (h : RSt w1 ps pb S all i ns a c w) : pb < w.heap.size:=h.sees.1
theorem RSt.cells (h : RSt w1 ps pb S all i ns a c w) : ∃ la lc tv,TokAt w1 la lc all ∧ (pb < w.heap.size ∧ ∀ j,w.frozen? ⟨pb,j,none⟩ = false) ∧ w.cell? ⟨pb,0,none⟩ = some (.string S) ∧ w.cell? ⟨pb,1,none⟩ = some (.slice la all.length lc) ∧ w.cell? ⟨pb,2,none⟩ = some (.int .i64 (i : Int)) ∧ w.cell? ⟨pb,3,none⟩ = some tv ∧ w.cell? ⟨pb,4,none⟩ = some (.int .i64 a) ∧ w.cell? ⟨pb,5,none⟩ = some (.int .i64 c):=by
 obtain ⟨h1,h2,la,lc,tv,h3,h4⟩:=h
 have hb : Blk w pb 62 #[.string S,.slice la all.length lc,.int .i64 (i : Int),tv,.int .i64 a,.int .i64 c]:=h4.ok.get (kVar pb 62 _) (List.mem_cons_self ..)
 exact ⟨la,lc,tv,h3,⟨hb.lt,fun j => hb.frozen j⟩,hb.cell 0,hb.cell 1,hb.cell 2,hb.cell 3,hb.cell 4,hb.cell 5⟩
end
set_option maxRecDepth 100000 in
set_option maxHeartbeats 4000000 in
theorem r_next (w1 : World) (ps : List Pers) (pb : Nat) (S : ByteArray) (all : List Tk) (i : Nat) (ns : List Nd) (a c : Int) (w : World) (_hn : all.length ≤ 1000) (_hi : i ≤ 2000) (_hs : S.size ≤ 4611686018427387904) (h : RSt w1 ps pb S all i ns a c w) :
  Calls Tryz.prog 32 #[.pointer (some ⟨pb,0,none⟩)] w fun e w' => e = .returned (tkA (hdS S.size (all.drop i))) ∧ Below w.heap.size w w':=by
 have hbl:=h.bel
 obtain ⟨la,lc,tv,hT,⟨hlt,-⟩,cc0,cc1,cc2,cc3,cc4,cc5⟩:=h.cells
 clear h
 obtain ⟨n,hl⟩ : ∃ n,all.length = n:=⟨_,rfl⟩
 rw [hl] at cc1 _hn
 by_cases hin : (i : Int) < n
 ·have hil : i < all.length:=by omega
  obtain ⟨t,ht⟩ : ∃ t,all[i]? = some t:=⟨_,List.getElem?_eq_getElem hil⟩
  have hhd : hdS S.size (all.drop i) = t:=by
   rw [List.drop_eq_getElem_cons hil]
   show all[i] = t
   rw [List.getElem?_eq_getElem hil] at ht
   exact Option.some.inj ht
  rw [hhd]
  obtain ⟨b,o,rfl,hb,hc⟩:=hT.at_ (by rintro rfl; simp at hil)
  have hbw : b < w.heap.size:=Nat.lt_of_lt_of_le hb hbl.size
  have g:=fun j v hj => (hbl.cell hb).trans (hc i t ht j v hj)
  have hcap : n ≤ lc:=by rw [← hl]; exact hT.le
  obtain ⟨tk,tn,tt,⟨t1,t2,t3,t4⟩,ta⟩:=t
  have g0:=g 0 _ rfl
  have g1:=g 1 _ rfl
  have g2:=g 2 _ rfl
  have g3:=g 3 _ rfl
  have g4:=g 4 _ rfl
  have g5:=g 5 _ rfl
  have g6:=g 6 _ rfl
  have g7:=g 7 _ rfl
  simp only [Nat.add_zero,← Nat.add_assoc] at g0 g1 g2 g3 g4 g5 g6 g7
  have HP:=Lib.hid ((((Ok.start w).add (kCells pb 0 [.string S,.slice (some ⟨b,o,none⟩) n lc,.int .i64 (i : Int),tv,.int .i64 a,.int .i64 c]) ⟨hlt,cc0,cc1,cc2,cc3,cc4,cc5,trivial⟩).add (kCells b (o + i * 8) [.int .u8 tk,.int .i64 tn,.string ⟨tt.toArray⟩,.int .i64 t1,.int .i64 t2,.int .i64 t3,.int .i64 t4,.int .i64 ta]) ⟨hbw,g0,g1,g2,g3,g4,g5,g6,g7,trivial⟩))
  clear hT hc g g0 g1 g2 g3 g4 g5 g6 g7 cc0 cc1 cc2 cc3 cc4 cc5 hb hbl hhd ht hil hlt hbw hl
  go_enter Tryz.func32,Tryz.ntmps32
  go_upto_region 1 with fail
  have H1:=Lib.hid (HP.out.var w.heap.size 43 [.int .u8 0,.int .i64 0,.string ⟨#[]⟩,.int .i64 0,.int .i64 0,.int .i64 0,.int .i64 0,.int .i64 0] rfl)
  clear HP
  generalize (w.alloc (.cells #[.int .u8 0,.int .i64 0,.string ⟨#[]⟩,.int .i64 0,.int .i64 0,.int .i64 0,.int .i64 0,.int .i64 0] 43)) = W2 at H1 ⊢
  have F3:=H1.out.sees
  simp only [sees,kVar,kCells,cellsFrom,Nat.add_zero,Nat.zero_add,cellsAt,Nat.reduceAdd] at F3
  obtain ⟨⟨⟨z0,fz0⟩,c0_0,c0_1,c0_2,c0_3,c0_4,c0_5,c0_6,c0_7,-⟩,⟨z1,c1_0,c1_1,c1_2,c1_3,c1_4,c1_5,c1_6,c1_7,-⟩,⟨z2,c2_0,c2_1,c2_2,c2_3,c2_4,c2_5,-⟩,-⟩:=F3
  refine wp_region_held_drew (S:=fun W => Ok w [kVar (w.heap.size) 43 [.int .u8 0,.int .i64 0,.string ⟨#[]⟩,.int .i64 0,.int .i64 0,.int .i64 0,.int .i64 0,.int .i64 0],kCells b (o + i * 8) [.int .u8 tk,.int .i64 tn,.string ⟨tt.toArray⟩,.int .i64 t1,.int .i64 t2,.int .i64 t3,.int .i64 t4,.int .i64 ta],kCells pb 0 [.string S,.slice (some ⟨b,o,none⟩) n lc,.int .i64 (i : Int),tv,.int .i64 a,.int .i64 c]] W) (by kernel_rfl) H1.out.drew (fun hHeld => ?_)
  refine tg (i:=0) (v:=?a1) rfl ?b1 (by assumption) ?c1
  case b1 => (intro w hSw; have F:=Ok.sees hSw; clear hSw; simp only [sees,kVar,kCells,cellsFrom,Nat.add_zero,Nat.zero_add,cellsAt,Nat.reduceAdd] at F; go_simp; try with_reducible rfl)
  try simp only [Act.put,p1,p2,p3,p4,p6]
  refine tg (i:=1) (v:=?a3) rfl ?b3 (by assumption) ?c3
  case b3 => (intro w hSw; have F:=Ok.sees hSw; clear hSw; simp only [sees,kVar,kCells,cellsFrom,Nat.add_zero,Nat.zero_add,cellsAt,Nat.reduceAdd] at F; go_simp; try with_reducible rfl)
  try simp only [Act.put,p1,p2,p3,p4,p5,p6]
  refine tg (i:=2) (v:=?a5) rfl ?b5 (by assumption) ?c5
  case b5 => (intro w hSw; have F:=Ok.sees hSw; clear hSw; simp only [sees,kVar,kCells,cellsFrom,Nat.add_zero,Nat.zero_add,cellsAt,Nat.reduceAdd] at F; go_simp; try with_reducible rfl)
  try simp only [Act.put,p1,p2,p3,p4,p5,p6]
  refine tg (i:=3) (v:=?a7) rfl ?b7 (by assumption) ?c7
  case b7 => (intro w hSw; have F:=Ok.sees hSw; clear hSw; simp only [sees,kVar,kCells,cellsFrom,Nat.add_zero,Nat.zero_add,cellsAt,Nat.reduceAdd] at F; go_simp; try with_reducible rfl)
  try simp only [Act.put,p1,p2,p3,p4,p5,p6]
  refine tg (i:=4) (v:=?a9) rfl ?b9 (by assumption) ?c9
  case b9 => (intro w hSw; have F:=Ok.sees hSw; clear hSw; simp only [sees,kVar,kCells,cellsFrom,Nat.add_zero,Nat.zero_add,cellsAt,Nat.reduceAdd] at F; go_simp; try with_reducible rfl)
  try simp only [Act.put,p1,p2,p3,p4,p5,p6]
  refine tg (i:=5) (v:=?a11) rfl ?b11 (by assumption) ?c11
  case b11 => (intro w hSw; have F:=Ok.sees hSw; clear hSw; simp only [sees,kVar,kCells,cellsFrom,Nat.add_zero,Nat.zero_add,cellsAt,Nat.reduceAdd] at F; go_simp; try with_reducible rfl)
  try simp only [Act.put,p1,p2,p3,p4,p5,p6]
  refine tg (i:=6) (v:=?a13) rfl ?b13 (by assumption) ?c13
  case b13 => (intro w hSw; have F:=Ok.sees hSw; clear hSw; simp only [sees,kVar,kCells,cellsFrom,Nat.add_zero,Nat.zero_add,cellsAt,Nat.reduceAdd] at F; go_simp; try with_reducible rfl)
  try simp only [Act.put,p1,p2,p3,p4,p5,p6]
  refine tg (i:=7) (v:=?a15) rfl ?b15 (by assumption) ?c15
  case b15 => (intro w hSw; have F:=Ok.sees hSw; clear hSw; simp only [sees,kVar,kCells,cellsFrom,Nat.add_zero,Nat.zero_add,cellsAt,Nat.reduceAdd] at F; go_simp; try with_reducible rfl)
  try simp only [Act.put,p1,p2,p3,p4,p5,p6]
  refine tg (i:=8) (v:=?a17) rfl ?b17 (by assumption) ?c17
  case b17 => (intro w hSw; have F:=Ok.sees hSw; clear hSw; simp only [sees,kVar,kCells,cellsFrom,Nat.add_zero,Nat.zero_add,cellsAt,Nat.reduceAdd] at F; go_simp; try with_reducible rfl)
  try simp only [Act.put,p1,p2,p3,p4,p5,p6]
  refine tg (i:=9) (v:=?a19) rfl ?b19 (by assumption) ?c19
  case b19 => (intro w hSw; have F:=Ok.sees hSw; clear hSw; simp only [sees,kVar,kCells,cellsFrom,Nat.add_zero,Nat.zero_add,cellsAt,Nat.reduceAdd] at F; go_simp; try with_reducible rfl)
  try simp only [Act.put,p1,p2,p3,p4,p5,p6]
  refine wpAnyH_done (by kernel_rfl) ?_ _
  clear z0 fz0 c0_0 c0_1 c0_2 c0_3 c0_4 c0_5 c0_6 c0_7 z1 c1_0 c1_1 c1_2 c1_3 c1_4 c1_5 c1_6 c1_7 z2 c2_0 c2_1 c2_2 c2_3 c2_4 c2_5
  clear H1
  have H5:=Lib.hid hHeld
  clear hHeld
  generalize W2.drew = W6 at H5 ⊢
  go_upto_region 2 with fail
  have HD:=Lib.hid H5.out.drew
  clear H5
  refine wp_region_any (by kernel_rfl) ?_
  change wpAny _ _ _ _ _ _ _ W6.drew
  generalize W6.drew = W9 at HD ⊢
  have F7:=HD.out.sees
  simp only [sees,kVar,kCells,cellsFrom,Nat.add_zero,Nat.zero_add,cellsAt,Nat.reduceAdd] at F7
  obtain ⟨⟨⟨z0,fz0⟩,c0_0,c0_1,c0_2,c0_3,c0_4,c0_5,c0_6,c0_7,-⟩,⟨z1,c1_0,c1_1,c1_2,c1_3,c1_4,c1_5,c1_6,c1_7,-⟩,⟨z2,c2_0,c2_1,c2_2,c2_3,c2_4,c2_5,-⟩,-⟩:=F7
  refine YtlngjiibbcgkmaaGreatDoor.tn (i:=0) (v:=?a21) rfl ?b21 ?c21
  case b21 => (intro w; go_simp; (try rw [if_neg (by omega)]); (try with_reducible rfl))
  try simp only [Act.put,p1,p2,p3,p4,p6]
  refine YtlngjiibbcgkmaaGreatDoor.tn (i:=1) (v:=?a23) rfl ?b23 ?c23
  case b23 => (intro w; go_simp; (try rw [if_neg (by omega)]); (try with_reducible rfl))
  try simp only [Act.put,p1,p2,p3,p4,p5,p6]
  refine YtlngjiibbcgkmaaGreatDoor.tn (i:=2) (v:=?a25) rfl ?b25 ?c25
  case b25 => (intro w; go_simp; (try rw [if_neg (by omega)]); (try with_reducible rfl))
  try simp only [Act.put,p1,p2,p3,p4,p5,p6]
  refine YtlngjiibbcgkmaaGreatDoor.tn (i:=4) (v:=?a27) rfl ?b27 ?c27
  case b27 => (intro w; go_simp; (try rw [if_neg (by omega)]); (try with_reducible rfl))
  try simp only [Act.put,p1,p2,p3,p4,p5,p6]
  refine YtlngjiibbcgkmaaGreatDoor.tn (i:=5) (v:=?a29) rfl ?b29 ?c29
  case b29 => (intro w; go_simp; (try rw [if_neg (by omega)]); (try with_reducible rfl))
  try simp only [Act.put,p1,p2,p3,p4,p5,p6]
  refine YtlngjiibbcgkmaaGreatDoor.tn (i:=6) (v:=?a31) rfl ?b31 ?c31
  case b31 => (intro w; go_simp; (try rw [if_neg (by omega)]); (try with_reducible rfl))
  try simp only [Act.put,p1,p2,p3,p4,p5,p6]
  refine wpAny_ready (rs:=[3,7]) (by kernel_rfl) (by simp) ?_
  refine (AllReady.cons rfl (fun K hK => ?_) (AllReady.cons rfl (fun K hK => ?_) AllReady.nil))
  ·go_simp
   refine hK _ _ ?_
   clear hK K
   try simp only [Act.put,p1,p2,p3,p4,p5,p6]
   refine wpAny_ready (rs:=[7]) (by kernel_rfl) (by simp) ?_
   refine (AllReady.cons rfl (fun K hK => ?_) AllReady.nil)
   ·go_simp
    refine hK _ _ ?_
    clear hK K
    try simp only [Act.put,p1,p2,p3,p4,p5,p6]
    refine YtlngjiibbcgkmaaGreatDoor.tn (i:=8) (v:=?a35) rfl ?b35 ?c35
    case b35 => (intro w; go_simp; (try rw [if_neg (by omega)]); (try with_reducible rfl))
    try simp only [Act.put,p1,p2,p3,p4,p5,p6]
    refine wpAny_ready (rs:=[9]) (by kernel_rfl) (by simp) ?_
    refine (AllReady.cons rfl (fun K hK => ?_) AllReady.nil)
    ·go_simp
     refine hK _ _ ?_
     clear hK K
     try simp only [Act.put,p1,p2,p3,p4,p5,p6]
     refine wpAny_ready (rs:=[10]) (by kernel_rfl) (by simp) ?_
     refine (AllReady.cons rfl (fun K hK => ?_) AllReady.nil)
     ·go_simp
      refine hK _ _ ?_
      clear hK K
      try simp only [Act.put,p1,p2,p3,p4,p5,p6]
      refine wpAny_done (by kernel_rfl) ?_ _
      go_wp2_with fail
      have hK:=HD.out.get (kVar (w.heap.size) 43 [.int .u8 0,.int .i64 0,.string ⟨#[]⟩,.int .i64 0,.int .i64 0,.int .i64 0,.int .i64 0,.int .i64 0]) (by simp)
      have hB:=HD.out.bel
      have hE:=(((((((((show Blk W9 (w.heap.size) 43 _ from hK).set_ 0 (.int .u8 tk)).set_ 1 (.int .i64 tn)).set_ 2 (.string ⟨tt.toArray⟩)).set_ 3 (.int .i64 t1)).set_ 4 (.int .i64 t2)).set_ 5 (.int .i64 t3)).set_ 6 (.int .i64 t4)).set_ 7 (.int .i64 ta))
      have r0:=hE.cell 0
      have r1:=hE.cell 1
      have r2:=hE.cell 2
      have r3:=hE.cell 3
      have r4:=hE.cell 4
      have r5:=hE.cell 5
      have r6:=hE.cell 6
      have r7:=hE.cell 7
      simp at r0 r1 r2 r3 r4 r5 r6 r7
      exact bodyPost_ret (v:=.agg #[.int .u8 tk,.int .i64 tn,.string ⟨tt.toArray⟩,.int .i64 t1,.int .i64 t2,.int .i64 t3,.int .i64 t4,.int .i64 ta]) (by simp [results,Tryz.results32,go_sem,r0,r1,r2,r3,r4,r5,r6,r7]) rfl ⟨rfl,((((((((hB.setCell (by simp) _).setCell (by simp) _).setCell (by simp) _).setCell (by simp) _).setCell (by simp) _).setCell (by simp) _).setCell (by simp) _).setCell (by simp) _)⟩
  ·go_simp
   refine hK _ _ ?_
   clear hK K
   try simp only [Act.put,p1,p2,p3,p4,p5,p6]
   refine wpAny_ready (rs:=[3]) (by kernel_rfl) (by simp) ?_
   refine (AllReady.cons rfl (fun K hK => ?_) AllReady.nil)
   ·go_simp
    refine hK _ _ ?_
    clear hK K
    try simp only [Act.put,p1,p2,p3,p4,p5,p6]
    refine YtlngjiibbcgkmaaGreatDoor.tn (i:=8) (v:=?a41) rfl ?b41 ?c41
    case b41 => (intro w; go_simp; (try rw [if_neg (by omega)]); (try with_reducible rfl))
    try simp only [Act.put,p1,p2,p3,p4,p5,p6]
    refine wpAny_ready (rs:=[9]) (by kernel_rfl) (by simp) ?_
    refine (AllReady.cons rfl (fun K hK => ?_) AllReady.nil)
    ·go_simp
     refine hK _ _ ?_
     clear hK K
     try simp only [Act.put,p1,p2,p3,p4,p5,p6]
     refine wpAny_ready (rs:=[10]) (by kernel_rfl) (by simp) ?_
     refine (AllReady.cons rfl (fun K hK => ?_) AllReady.nil)
     ·go_simp
      refine hK _ _ ?_
      clear hK K
      try simp only [Act.put,p1,p2,p3,p4,p5,p6]
      refine wpAny_done (by kernel_rfl) ?_ _
      go_wp2_with fail
      have hK:=HD.out.get (kVar (w.heap.size) 43 [.int .u8 0,.int .i64 0,.string ⟨#[]⟩,.int .i64 0,.int .i64 0,.int .i64 0,.int .i64 0,.int .i64 0]) (by simp)
      have hB:=HD.out.bel
      have hE:=(((((((((show Blk W9 (w.heap.size) 43 _ from hK).set_ 0 (.int .u8 tk)).set_ 1 (.int .i64 tn)).set_ 2 (.string ⟨tt.toArray⟩)).set_ 3 (.int .i64 t1)).set_ 4 (.int .i64 t2)).set_ 5 (.int .i64 t3)).set_ 6 (.int .i64 t4)).set_ 7 (.int .i64 ta))
      have r0:=hE.cell 0
      have r1:=hE.cell 1
      have r2:=hE.cell 2
      have r3:=hE.cell 3
      have r4:=hE.cell 4
      have r5:=hE.cell 5
      have r6:=hE.cell 6
      have r7:=hE.cell 7
      simp at r0 r1 r2 r3 r4 r5 r6 r7
      exact bodyPost_ret (v:=.agg #[.int .u8 tk,.int .i64 tn,.string ⟨tt.toArray⟩,.int .i64 t1,.int .i64 t2,.int .i64 t3,.int .i64 t4,.int .i64 ta]) (by simp [results,Tryz.results32,go_sem,r0,r1,r2,r3,r4,r5,r6,r7]) rfl ⟨rfl,((((((((hB.setCell (by simp) _).setCell (by simp) _).setCell (by simp) _).setCell (by simp) _).setCell (by simp) _).setCell (by simp) _).setCell (by simp) _).setCell (by simp) _)⟩
 ·have hhd : hdS S.size (all.drop i) = ⟨0,0,[],R4.zero,S.size⟩:=by
   rw [List.drop_eq_nil_of_le (by omega)]
   rfl
  rw [hhd]
  have HP:=Lib.hid ((Ok.start w).add (kCells pb 0 [.string S,.slice la n lc,.int .i64 (i : Int),tv,.int .i64 a,.int .i64 c]) ⟨hlt,cc0,cc1,cc2,cc3,cc4,cc5,trivial⟩)
  clear hT cc0 cc1 cc2 cc3 cc4 cc5 hhd hlt hl hbl
  go_enter Tryz.func32,Tryz.ntmps32
  go_upto_region 1 with fail
  have H1:=Lib.hid (HP.out.var w.heap.size 43 [.int .u8 0,.int .i64 0,.string ⟨#[]⟩,.int .i64 0,.int .i64 0,.int .i64 0,.int .i64 0,.int .i64 0] rfl)
  clear HP
  generalize (w.alloc (.cells #[.int .u8 0,.int .i64 0,.string ⟨#[]⟩,.int .i64 0,.int .i64 0,.int .i64 0,.int .i64 0,.int .i64 0] 43)) = W2 at H1 ⊢
  have F3:=H1.out.sees
  simp only [sees,kVar,kCells,cellsFrom,Nat.add_zero,Nat.zero_add,cellsAt,Nat.reduceAdd] at F3
  obtain ⟨⟨⟨z0,fz0⟩,c0_0,c0_1,c0_2,c0_3,c0_4,c0_5,c0_6,c0_7,-⟩,⟨z1,c1_0,c1_1,c1_2,c1_3,c1_4,c1_5,-⟩,-⟩:=F3
  refine wp_region_held_drew (S:=fun W => Ok w [kVar (w.heap.size) 43 [.int .u8 0,.int .i64 0,.string ⟨#[]⟩,.int .i64 0,.int .i64 0,.int .i64 0,.int .i64 0,.int .i64 0],kCells pb 0 [.string S,.slice la n lc,.int .i64 (i : Int),tv,.int .i64 a,.int .i64 c]] W) (by kernel_rfl) H1.out.drew (fun hHeld => ?_)
  refine tg (i:=0) (v:=?a45) rfl ?b45 (by assumption) ?c45
  case b45 => (intro w hSw; have F:=Ok.sees hSw; clear hSw; simp only [sees,kVar,kCells,cellsFrom,Nat.add_zero,Nat.zero_add,cellsAt,Nat.reduceAdd] at F; go_simp; try with_reducible rfl)
  try simp only [Act.put,p1,p2,p3,p4,p6]
  refine tg (i:=1) (v:=?a47) rfl ?b47 (by assumption) ?c47
  case b47 => (intro w hSw; have F:=Ok.sees hSw; clear hSw; simp only [sees,kVar,kCells,cellsFrom,Nat.add_zero,Nat.zero_add,cellsAt,Nat.reduceAdd] at F; go_simp; try with_reducible rfl)
  try simp only [Act.put,p1,p2,p3,p4,p5,p6]
  refine tg (i:=2) (v:=?a49) rfl ?b49 (by assumption) ?c49
  case b49 => (intro w hSw; have F:=Ok.sees hSw; clear hSw; simp only [sees,kVar,kCells,cellsFrom,Nat.add_zero,Nat.zero_add,cellsAt,Nat.reduceAdd] at F; go_simp; try with_reducible rfl)
  try simp only [Act.put,p1,p2,p3,p4,p5,p6]
  refine tg (i:=3) (v:=?a51) rfl ?b51 (by assumption) ?c51
  case b51 => (intro w hSw; have F:=Ok.sees hSw; clear hSw; simp only [sees,kVar,kCells,cellsFrom,Nat.add_zero,Nat.zero_add,cellsAt,Nat.reduceAdd] at F; go_simp; try with_reducible rfl)
  try simp only [Act.put,p1,p2,p3,p4,p5,p6]
  refine tg (i:=4) (v:=?a53) rfl ?b53 (by assumption) ?c53
  case b53 => (intro w hSw; have F:=Ok.sees hSw; clear hSw; simp only [sees,kVar,kCells,cellsFrom,Nat.add_zero,Nat.zero_add,cellsAt,Nat.reduceAdd] at F; go_simp; try with_reducible rfl)
  try simp only [Act.put,p1,p2,p3,p4,p5,p6]
  refine tg (i:=5) (v:=?a55) rfl ?b55 (by assumption) ?c55
  case b55 => (intro w hSw; have F:=Ok.sees hSw; clear hSw; simp only [sees,kVar,kCells,cellsFrom,Nat.add_zero,Nat.zero_add,cellsAt,Nat.reduceAdd] at F; go_simp; try with_reducible rfl)
  try simp only [Act.put,p1,p2,p3,p4,p5,p6]
  refine tg (i:=6) (v:=?a57) rfl ?b57 (by assumption) ?c57
  case b57 => (intro w hSw; have F:=Ok.sees hSw; clear hSw; simp only [sees,kVar,kCells,cellsFrom,Nat.add_zero,Nat.zero_add,cellsAt,Nat.reduceAdd] at F; go_simp; try with_reducible rfl)
  try simp only [Act.put,p1,p2,p3,p4,p5,p6]
  refine tg (i:=7) (v:=?a59) rfl ?b59 (by assumption) ?c59
  case b59 => (intro w hSw; have F:=Ok.sees hSw; clear hSw; simp only [sees,kVar,kCells,cellsFrom,Nat.add_zero,Nat.zero_add,cellsAt,Nat.reduceAdd] at F; go_simp; try with_reducible rfl)
  try simp only [Act.put,p1,p2,p3,p4,p5,p6]
  refine tg (i:=8) (v:=?a61) rfl ?b61 (by assumption) ?c61
  case b61 => (intro w hSw; have F:=Ok.sees hSw; clear hSw; simp only [sees,kVar,kCells,cellsFrom,Nat.add_zero,Nat.zero_add,cellsAt,Nat.reduceAdd] at F; go_simp; try with_reducible rfl)
  try simp only [Act.put,p1,p2,p3,p4,p5,p6]
  refine tg (i:=9) (v:=?a63) rfl ?b63 (by assumption) ?c63
  case b63 => (intro w hSw; have F:=Ok.sees hSw; clear hSw; simp only [sees,kVar,kCells,cellsFrom,Nat.add_zero,Nat.zero_add,cellsAt,Nat.reduceAdd] at F; go_simp; try with_reducible rfl)
  try simp only [Act.put,p1,p2,p3,p4,p5,p6]
  refine wpAnyH_done (by kernel_rfl) ?_ _
  clear z0 fz0 c0_0 c0_1 c0_2 c0_3 c0_4 c0_5 c0_6 c0_7 z1 c1_0 c1_1 c1_2 c1_3 c1_4 c1_5
  clear H1
  have H5:=Lib.hid hHeld
  clear hHeld
  generalize W2.drew = W6 at H5 ⊢
  go_upto_region 3 with fail
  have F7:=H5.out.sees
  simp only [sees,kVar,kCells,cellsFrom,Nat.add_zero,Nat.zero_add,cellsAt,Nat.reduceAdd] at F7
  obtain ⟨⟨⟨z0,fz0⟩,c0_0,c0_1,c0_2,c0_3,c0_4,c0_5,c0_6,c0_7,-⟩,⟨z1,c1_0,c1_1,c1_2,c1_3,c1_4,c1_5,-⟩,-⟩:=F7
  go_wp2_with fail
  have hK:=H5.out.get (kVar (w.heap.size) 43 [.int .u8 0,.int .i64 0,.string ⟨#[]⟩,.int .i64 0,.int .i64 0,.int .i64 0,.int .i64 0,.int .i64 0]) (by simp)
  have hB:=H5.out.bel
  have hE:=(((((((((show Blk W6 (w.heap.size) 43 _ from hK).set_ 0 (.int .u8 0)).set_ 1 (.int .i64 0)).set_ 2 (.string ⟨#[]⟩)).set_ 3 (.int .i64 0)).set_ 4 (.int .i64 0)).set_ 5 (.int .i64 0)).set_ 6 (.int .i64 0)).set_ 7 (.int .i64 (S.size : Int)))
  have r0:=hE.cell 0
  have r1:=hE.cell 1
  have r2:=hE.cell 2
  have r3:=hE.cell 3
  have r4:=hE.cell 4
  have r5:=hE.cell 5
  have r6:=hE.cell 6
  have r7:=hE.cell 7
  simp at r0 r1 r2 r3 r4 r5 r6 r7
  exact bodyPost_ret (v:=.agg #[.int .u8 0,.int .i64 0,.string ⟨#[]⟩,.int .i64 0,.int .i64 0,.int .i64 0,.int .i64 0,.int .i64 (S.size : Int)]) (by simp [results,Tryz.results32,go_sem,r0,r1,r2,r3,r4,r5,r6,r7]) rfl ⟨rfl,((((((((hB.setCell (by simp) _).setCell (by simp) _).setCell (by simp) _).setCell (by simp) _).setCell (by simp) _).setCell (by simp) _).setCell (by simp) _).setCell (by simp) _)⟩
def firstF (c x a : Int) : Int:=if c = 0 then x else a
def RDone (ret : Value) (w1 : World) (ps : List Pers) (pb : Nat) (S : ByteArray) (all : List Tk) (i : Nat) (ns : List Nd) (a c : Int) (e : Ending) (w : World) : Prop :=
 e = .returned ret ∧ RSt w1 ps pb S all i ns a c w
set_option maxHeartbeats 1000000 in
theorem r_fault (w1 : World) (ps : List Pers) (pb : Nat) (S : ByteArray) (all : List Tk) (i : Nat) (ns : List Nd) (a c x y : Int) (w : World) (h : RSt w1 ps pb S all i ns a c w) :
  Calls Tryz.prog 31 #[.pointer (some ⟨pb,0,none⟩),.int .i64 x,.int .i64 y] w (RDone (.tuple #[]) w1 ps pb S all i ns (firstF c x a) (firstF c y c)):=by
 obtain ⟨h1,h2,la,lc,tv,hT,hO⟩:=h
 have F0:=hO.ok.sees
 simp only [sees,kVar,cellsAt,Nat.reduceAdd] at F0
 obtain ⟨⟨⟨hp0,hpf⟩,cc0,cc1,cc2,cc3,cc4,cc5,-⟩,-⟩:=F0
 have HO:=Lib.hid hO
 have HT:=keep hT
 have H2:=keep h2
 clear hO hT h2
 by_cases hc : c = 0
 ·rw [show firstF c x a = x from if_pos hc,show firstF c y c = y from if_pos hc]
  subst hc
  go_enter Tryz.func31,Tryz.ntmps31
  go_wp2_with fail
  first
   | go_end0
   | refine bodyPost_ret (results_none rfl _ _ _) rfl ?_
  exact ⟨rfl,h1,H2.out,_,_,_,HT.out,(HO.out.set_ (i:=4) h1 H2.out).set_ (i:=5) h1 H2.out⟩
 ·rw [show firstF c x a = a from if_neg hc,show firstF c y c = c from if_neg hc]
  go_enter Tryz.func31,Tryz.ntmps31
  go_wp2_with fail
  first
   | go_end0
   | refine bodyPost_ret (results_none rfl _ _ _) rfl ?_
  exact ⟨rfl,h1,H2.out,_,_,_,HT.out,HO.out⟩
set_option maxRecDepth 100000 in
set_option maxHeartbeats 4000000 in
theorem r_Binds (op : Int) (w : World) :
  Calls Tryz.prog 36 #[.int .i64 op] w fun e w' => e = .returned (.tuple #[.int .i64 (bindS op : Nat),.bool (isPow op),.int .i64 (bindE op)]) ∧ w' = w:=by
 go_enter Tryz.func36,Tryz.ntmps36
 go_wp2_with fail
 all_goals simp only [beq_iff_eq,beq_eq_false_iff_ne,ne_eq] at *
 all_goals
  first
  | exact bodyPost_ret (v:=.tuple #[.int .i64 1,.bool false,.int .i64 0]) (by simp [results,Tryz.results36,go_sem]) rfl ⟨by subst_vars; rfl,rfl⟩
  | exact bodyPost_ret (v:=.tuple #[.int .i64 2,.bool false,.int .i64 0]) (by simp [results,Tryz.results36,go_sem]) rfl ⟨by subst_vars; rfl,rfl⟩
  | exact bodyPost_ret (v:=.tuple #[.int .i64 3,.bool false,.int .i64 0]) (by simp [results,Tryz.results36,go_sem]) rfl ⟨by subst_vars; rfl,rfl⟩
  | exact bodyPost_ret (v:=.tuple #[.int .i64 4,.bool false,.int .i64 0]) (by simp [results,Tryz.results36,go_sem]) rfl ⟨by subst_vars; rfl,rfl⟩
  | exact bodyPost_ret (v:=.tuple #[.int .i64 6,.bool true,.int .i64 0]) (by simp [results,Tryz.results36,go_sem]) rfl ⟨by subst_vars; rfl,rfl⟩
  | exact bodyPost_ret (v:=.tuple #[.int .i64 7,.bool false,.int .i64 0]) (by simp [results,Tryz.results36,go_sem]) rfl ⟨by subst_vars; rfl,rfl⟩
  | skip
 have hb : bindS op = 0:=by
  unfold bindS
  rw [if_neg (by omega),if_neg (by omega),if_neg (by omega),if_neg (by omega),if_neg (by omega),if_neg (by omega)]
 exact bodyPost_ret (v:=.tuple #[.int .i64 0,.bool false,.int .i64 2]) (by simp [results,Tryz.results36,go_sem]) rfl ⟨by unfold isPow bindE; rw [hb,decide_eq_false (by omega)]; rfl,rfl⟩
def isBind (t : Tk) (k : Nat) : Bool:=decide (t.kind = 8 ∧ bindS t.num = k)
set_option maxHeartbeats 1000000 in
theorem r_op (w1 : World) (ps : List Pers) (pb : Nat) (S : ByteArray) (all : List Tk) (i : Nat) (ns : List Nd) (a c : Int) (k : Nat) (w : World) (hn : all.length ≤ 1000) (hi : i ≤ 2000) (hs : S.size ≤ 4611686018427387904) (h : RSt w1 ps pb S all i ns a c w) :
  Calls Tryz.prog 52 #[.pointer (some ⟨pb,0,none⟩),.int .i64 (k : Nat)] w fun e w' => e = .returned (.bool (isBind (hdS S.size (all.drop i)) k)) ∧ Below w.heap.size w w':=by
 have HH:=keep (r_next w1 ps pb S all i ns a c w hn hi hs h)
 have H0:=Lib.hid (Ok.start w)
 clear h hn hi hs
 obtain ⟨⟨tk,tn,tt,⟨t1,t2,t3,t4⟩,ta⟩,ht⟩ : ∃ t,hdS S.size (all.drop i) = t:=⟨_,rfl⟩
 rw [ht] at HH ⊢
 clear ht
 have HB:=keep (fun W => r_Binds tn W)
 unfold isBind
 simp only []
 obtain ⟨b,hb⟩ : ∃ b,bindS tn = b:=⟨_,rfl⟩
 rw [hb] at HB ⊢
 clear hb
 go_enter Tryz.func52,Tryz.ntmps52
 go_wp2_with fail
 refine (HH.out).mono ?_
 rintro e w1 ⟨rfl,hb2⟩
 have H3:=Lib.hid (H0.out.below hb2)
 clear hb2 H0
 clear HH
 simp only [tkA]
 go_upto_region 2 with fail
 have H4:=Lib.hid (H3.out.alloc w1.heap.size 43 [.int .u8 tk,.int .i64 tn,.string ⟨tt.toArray⟩,.int .i64 t1,.int .i64 t2,.int .i64 t3,.int .i64 t4,.int .i64 ta] rfl)
 clear H3
 generalize (w1.alloc (.cells #[.int .u8 tk,.int .i64 tn,.string ⟨tt.toArray⟩,.int .i64 t1,.int .i64 t2,.int .i64 t3,.int .i64 t4,.int .i64 ta] 43)) = W5 at H4 ⊢
 have F6:=H4.out.sees
 simp only [sees,kBlk,cellsAt,Nat.reduceAdd] at F6
 obtain ⟨⟨z0,c0_0,c0_1,c0_2,c0_3,c0_4,c0_5,c0_6,c0_7,-⟩,-⟩:=F6
 go_wp2_with fail
 refine (HB.out _).mono ?_
 rintro e w6 ⟨rfl,hw⟩
 obtain rfl : W5 = w6:=hw.symm
 by_cases h8 : tk = 8
 ·subst h8
  go_wp2_with fail
  go_ret
  exact ⟨by congr 2; by_cases hbk : b = k <;> simp [hbk] <;> omega,H4.out.bel⟩
 ·have h8b : ((tk : Int) == 8) = false:=by simp; omega
  go_wp2_with fail
  go_ret
  exact ⟨by simp [h8],H4.out.bel⟩
theorem RSt.inc {w1 w : World} {ps : List Pers} {pb i : Nat} {S : ByteArray} {all : List Tk} {ns : List Nd} {a c : Int} (h : RSt w1 ps pb S all i ns a c w) : RSt w1 ps pb S all (i + 1) ns a c (w.setCell ⟨pb,2,none⟩ (.int .i64 ((i : Int) + 1))):=by
 obtain ⟨h1,h2,la,lc,tv,hT,hO⟩:=h
 exact ⟨h1,h2,la,lc,tv,hT,hO.set_ (i:=2) h1 h2⟩
theorem fld_kind (a b c d e f g h : Value) (w : World) : (Instr.field 43 (.agg #[a,b,c,d,e,f,g,h]) 0).run Tryz.prog w = .ok a w:=by kernel_rfl
theorem fld_num (a b c d e f g h : Value) (w : World) : (Instr.field 43 (.agg #[a,b,c,d,e,f,g,h]) 1).run Tryz.prog w = .ok b w:=by kernel_rfl
theorem fld_at (a b c d e f g h : Value) (w : World) : (Instr.field 43 (.agg #[a,b,c,d,e,f,g,h]) 4).run Tryz.prog w = .ok h w:=by kernel_rfl
set_option maxHeartbeats 1000000 in
theorem r_want_ok (w1 : World) (ps : List Pers) (pb : Nat) (S : ByteArray) (all : List Tk) (i : Nat) (ns : List Nd) (a c : Int) (k : Nat) (w : World) (hn : all.length ≤ 1000) (hi : i ≤ 2000) (hs : S.size ≤ 4611686018427387904) (h : RSt w1 ps pb S all i ns a c w) (hk : (hdS S.size (all.drop i)).kind = k) :
  Calls Tryz.prog 165 #[.pointer (some ⟨pb,0,none⟩),.int .u8 (k : Nat)] w (RDone (.tuple #[]) w1 ps pb S all (i + 1) ns a c):=by
 have HH:=keep (r_next w1 ps pb S all i ns a c w hn hi hs h)
 have H:=Lib.hid h
 obtain ⟨⟨tk,tn,tt,⟨t1,t2,t3,t4⟩,ta⟩,ht⟩ : ∃ t,hdS S.size (all.drop i) = t:=⟨_,rfl⟩
 rw [ht] at HH hk
 have HT:=keep ht
 have hk2 : tk = k:=hk
 clear h hk ht
 subst hk2
 have hfk:=fld_kind
 go_enter Tryz.func165,Tryz.ntmps165
 go_wp2_with fail
 refine (HH.out).mono ?_
 rintro e wa1 ⟨rfl,hb2⟩
 have H3:=Lib.hid (H.out.below hb2)
 clear hb2 H HH
 simp only [tkA]
 obtain ⟨la,lc,tv,-,⟨x0,x1⟩,cc0,cc1,cc2,cc3,cc4,cc5⟩:=H3.out.cells
 go_wp2_with fail
 first
  | go_end0
  | refine bodyPost_ret (results_none rfl _ _ _) rfl ?_
 exact ⟨rfl,H3.out.inc⟩
set_option maxRecDepth 100000 in
set_option maxHeartbeats 1000000 in
theorem r_want_bad (w1 : World) (ps : List Pers) (pb : Nat) (S : ByteArray) (all : List Tk) (i : Nat) (ns : List Nd) (a c : Int) (k : Nat) (w : World) (hn : all.length ≤ 1000) (hi : i ≤ 2000) (hs : S.size ≤ 4611686018427387904) (h : RSt w1 ps pb S all i ns a c w) (hk : (hdS S.size (all.drop i)).kind ≠ k) :
  Calls Tryz.prog 165 #[.pointer (some ⟨pb,0,none⟩),.int .u8 (k : Nat)] w (RDone (.tuple #[]) w1 ps pb S all i ns (firstF c ((hdS S.size (all.drop i)).at_ : Int) a) (firstF c 4 c)):=by
 have HH:=keep (r_next w1 ps pb S all i ns a c w hn hi hs h)
 have H:=Lib.hid h
 obtain ⟨⟨tk,tn,tt,⟨t1,t2,t3,t4⟩,ta⟩,ht⟩ : ∃ t,hdS S.size (all.drop i) = t:=⟨_,rfl⟩
 rw [ht] at HH hk
 have HT:=keep ht
 have hk2 : tk ≠ k:=hk
 clear h hk ht
 rw [HT.out]
 have hk3 : ((tk : Int) == (k : Int)) = false:=by simp; omega
 clear hk2
 have hfk:=fld_kind
 have hfa:=fld_at
 go_enter Tryz.func165,Tryz.ntmps165
 go_wp2_with fail
 refine (HH.out).mono ?_
 rintro e wa1 ⟨rfl,hb2⟩
 have H3:=Lib.hid (H.out.below hb2)
 clear hb2 H HH
 simp only [tkA]
 go_wp2_with fail
 refine (r_next w1 ps pb S all i ns a c wa1 hn hi hs H3.out).mono ?_
 rintro e wa2 ⟨rfl,hb2⟩
 rw [HT.out]
 have H4:=Lib.hid (H3.out.below hb2)
 clear hb2 H3
 simp only [tkA]
 go_wp2_with fail
 refine (r_fault w1 ps pb S all i ns a c _ _ wa2 H4.out).mono ?_
 rintro e wa7 ⟨rfl,hd9⟩
 have HZ:=Lib.hid hd9
 clear hd9 H4
 go_wp2_with fail
 first
  | go_end0
  | refine bodyPost_ret (results_none rfl _ _ _) rfl ?_
 exact ⟨rfl,HZ.out⟩
end Go.Proofs.YtlngjiibbcgkmaaGreatDoor
