/- The statement's own 'awake' of chapter 09. -/
import Derived.Test.YtlngjiibbcgkmaaGreatDoorForC
import Derived.Test.YtlngjiibbcgkmaaGreatDoorOk
namespace Go.Proofs.YtlngjiibbcgkmaaGreatDoor
open Go.RowKit
set_option maxRecDepth 100000 in
set_option maxHeartbeats 8000000 in
theorem law_awake9 (w : World) (hw : Words w) :
  Calls Tryz.prog 14 #[] w fun e w' => e = .returned (.bool true) ∧ Below w.heap.size w w':=by
 have HW:=keep hw
 clear hw
 have H0:=Lib.hid (Ok.start w)
 go_enter Tryz.func14,Tryz.ntmps14
 go_wp2_with fail
 refine (parse_Formula _ _ (by decide) (HW.out.below H0.out.bel)).mono ?_
 rintro e w1 ⟨va,rfl,hown,hb⟩
 rw [show formS (({ data:=#[49,43,50,42,51] } : ByteArray).data.toList) = _ from form_a] at hown ⊢
 obtain ⟨aa,ca,rfl⟩:=own_len hown
 have H2:=Lib.hid (OkRow.of_new H0.out hb hown).pers
 have H2a : Hid (Ok w [kRow w.heap.size 32 11 (.slice aa 5 ca) 5 (ndCells [ndNum 10000,ndNum 20000,ndNum 30000,ndBin 3,ndBin 1])] w1):=Lib.hid ((OkRow.of_new (H0.out.drop [] (by simp)) hb (hown)).ok.add (kRow w.heap.size 32 11 (.slice aa 5 ca) 5 (ndCells [ndNum 10000,ndNum 20000,ndNum 30000,ndBin 3,ndBin 1])) (hown.mono H0.out.bel.size))
 clear H2
 clear hb hown H0
 go_wp2_with fail
 refine (parse_Formula _ _ (by decide) (HW.out.below H2a.out.bel)).mono ?_
 rintro e w3 ⟨vb,rfl,hown,hb⟩
 rw [show formS (({ data:=#[45,50,94,50] } : ByteArray).data.toList) = _ from form_b] at hown ⊢
 obtain ⟨ab,cb,rfl⟩:=own_len hown
 have H4:=Lib.hid (OkRow.of_new H2a.out hb hown).pers
 have H4a : Hid (Ok w [kRow w.heap.size 32 11 (.slice ab 4 cb) 4 (ndCells [ndNum 20000,ndNum 20000,ndBin 5,ndNeg]),kRow w.heap.size 32 11 (.slice aa 5 ca) 5 (ndCells [ndNum 10000,ndNum 20000,ndNum 30000,ndBin 3,ndBin 1])] w3):=Lib.hid ((OkRow.of_new (H2a.out.drop [kRow w.heap.size 32 11 (.slice aa 5 ca) 5 (ndCells [ndNum 10000,ndNum 20000,ndNum 30000,ndBin 3,ndBin 1])] (by simp)) hb (hown)).ok.add (kRow w.heap.size 32 11 (.slice ab 4 cb) 4 (ndCells [ndNum 20000,ndNum 20000,ndBin 5,ndNeg])) (hown.mono H2a.out.bel.size))
 clear H4
 clear hb hown H2a
 go_wp2_with fail
 refine (parse_Formula _ _ (by decide) (HW.out.below H4a.out.bel)).mono ?_
 rintro e w5 ⟨vc,rfl,hown,hb⟩
 rw [show formS (({ data:=#[50,94,51,94,50] } : ByteArray).data.toList) = _ from form_c] at hown ⊢
 obtain ⟨ac,cc,rfl⟩:=own_len hown
 have H6:=Lib.hid (OkRow.of_new H4a.out hb hown).pers
 have H6a : Hid (Ok w [kRow w.heap.size 32 11 (.slice ac 5 cc) 5 (ndCells [ndNum 20000,ndNum 30000,ndNum 20000,ndBin 5,ndBin 5]),kRow w.heap.size 32 11 (.slice ab 4 cb) 4 (ndCells [ndNum 20000,ndNum 20000,ndBin 5,ndNeg]),kRow w.heap.size 32 11 (.slice aa 5 ca) 5 (ndCells [ndNum 10000,ndNum 20000,ndNum 30000,ndBin 3,ndBin 1])] w5):=Lib.hid ((OkRow.of_new (H4a.out.drop [kRow w.heap.size 32 11 (.slice ab 4 cb) 4 (ndCells [ndNum 20000,ndNum 20000,ndBin 5,ndNeg]),kRow w.heap.size 32 11 (.slice aa 5 ca) 5 (ndCells [ndNum 10000,ndNum 20000,ndNum 30000,ndBin 3,ndBin 1])] (by simp)) hb (hown)).ok.add (kRow w.heap.size 32 11 (.slice ac 5 cc) 5 (ndCells [ndNum 20000,ndNum 30000,ndNum 20000,ndBin 5,ndBin 5])) (hown.mono H4a.out.bel.size))
 clear H6
 clear hb hown H4a
 go_wp2_with fail
 refine (parse_Formula _ _ (by decide) (HW.out.below H6a.out.bel)).mono ?_
 rintro e w7 ⟨vd,rfl,hown,hb⟩
 rw [show formS (({ data:=#[83,85,77,40,65,49,58,66,50,43,49,41] } : ByteArray).data.toList) = _ from form_d] at hown ⊢
 have H8:=Lib.hid (H6a.out.below hb)
 clear hb hown H6a
 go_wp2_with fail
 refine (parse_Formula _ _ (by decide) (HW.out.below H8.out.bel)).mono ?_
 rintro e w9 ⟨ve,rfl,hown,hb⟩
 rw [show formS (({ data:=#[49,43,65,66,83,40,49,44,50,41] } : ByteArray).data.toList) = _ from form_e] at hown ⊢
 have H10:=Lib.hid (H8.out.below hb)
 clear hb hown H8
 go_upto_region 7 with fail
 have H11:=Lib.hid (((H10.out.alloc w9.heap.size 32 [.int .u8 6,.int .u8 0,.int .i64 0,.string ⟨#[]⟩,.int .i64 0,.int .i64 0,.int .i64 0,.int .i64 0,.int .i64 1,.int .u8 0,.int .i64 0] rfl).alloc (w9.heap.size + 1) 32 [.int .u8 6,.int .u8 0,.int .i64 0,.string ⟨#[]⟩,.int .i64 0,.int .i64 0,.int .i64 0,.int .i64 0,.int .i64 3,.int .u8 0,.int .i64 0] (by simp)).alloc (w9.heap.size + 1 + 1) 32 [.int .u8 6,.int .u8 0,.int .i64 0,.string ⟨#[]⟩,.int .i64 0,.int .i64 0,.int .i64 0,.int .i64 0,.int .i64 5,.int .u8 0,.int .i64 0] (by simp))
 clear H10
 generalize (((w9.alloc (.cells #[.int .u8 6,.int .u8 0,.int .i64 0,.string ⟨#[]⟩,.int .i64 0,.int .i64 0,.int .i64 0,.int .i64 0,.int .i64 1,.int .u8 0,.int .i64 0] 32)).alloc (.cells #[.int .u8 6,.int .u8 0,.int .i64 0,.string ⟨#[]⟩,.int .i64 0,.int .i64 0,.int .i64 0,.int .i64 0,.int .i64 3,.int .u8 0,.int .i64 0] 32)).alloc (.cells #[.int .u8 6,.int .u8 0,.int .i64 0,.string ⟨#[]⟩,.int .i64 0,.int .i64 0,.int .i64 0,.int .i64 0,.int .i64 5,.int .u8 0,.int .i64 0] 32)) = W12 at H11 ⊢
 have F13:=H11.out.sees
 simp only [sees,kBlk,cellsAt,Nat.reduceAdd] at F13
 obtain ⟨⟨z0,c0_0,c0_1,c0_2,c0_3,c0_4,c0_5,c0_6,c0_7,c0_8,c0_9,c0_10,-⟩,⟨z1,c1_0,c1_1,c1_2,c1_3,c1_4,c1_5,c1_6,c1_7,c1_8,c1_9,c1_10,-⟩,⟨z2,c2_0,c2_1,c2_2,c2_3,c2_4,c2_5,c2_6,c2_7,c2_8,c2_9,c2_10,-⟩,-,-,-,-⟩:=F13
 refine wp_region_held_drew (S:=fun W => Ok w [kBlk (w9.heap.size + 1 + 1) 32 [.int .u8 6,.int .u8 0,.int .i64 0,.string ⟨#[]⟩,.int .i64 0,.int .i64 0,.int .i64 0,.int .i64 0,.int .i64 5,.int .u8 0,.int .i64 0],kBlk (w9.heap.size + 1) 32 [.int .u8 6,.int .u8 0,.int .i64 0,.string ⟨#[]⟩,.int .i64 0,.int .i64 0,.int .i64 0,.int .i64 0,.int .i64 3,.int .u8 0,.int .i64 0],kBlk (w9.heap.size) 32 [.int .u8 6,.int .u8 0,.int .i64 0,.string ⟨#[]⟩,.int .i64 0,.int .i64 0,.int .i64 0,.int .i64 0,.int .i64 1,.int .u8 0,.int .i64 0],kRow w.heap.size 32 11 (.slice ac 5 cc) 5 (ndCells [ndNum 20000,ndNum 30000,ndNum 20000,ndBin 5,ndBin 5]),kRow w.heap.size 32 11 (.slice ab 4 cb) 4 (ndCells [ndNum 20000,ndNum 20000,ndBin 5,ndNeg]),kRow w.heap.size 32 11 (.slice aa 5 ca) 5 (ndCells [ndNum 10000,ndNum 20000,ndNum 30000,ndBin 3,ndBin 1])] W) (by kernel_rfl) H11.out.drew (fun hHeld => ?_)
 clear z0 c0_0 c0_1 c0_2 c0_3 c0_4 c0_5 c0_6 c0_7 c0_8 c0_9 c0_10 z1 c1_0 c1_1 c1_2 c1_3 c1_4 c1_5 c1_6 c1_7 c1_8 c1_9 c1_10 z2 c2_0 c2_1 c2_2 c2_3 c2_4 c2_5 c2_6 c2_7 c2_8 c2_9 c2_10
 have H14:=Lib.hid H11.out.drew
 clear H11
 generalize W12.drew = W15 at hHeld H14 ⊢
 refine tg (i:=0) (v:=?a1) rfl ?b1 (by assumption) ?c1
 case b1 => (intro w hSw; have F:=Ok.sees hSw; clear hSw; simp only [sees,kBlk,cellsAt,Nat.reduceAdd] at F; go_simp; try with_reducible rfl)
 try simp only [Act.put,p1,p2,p3,p4,p6]
 refine tg (i:=1) (v:=?a3) rfl ?b3 (by assumption) ?c3
 case b3 => (intro w hSw; have F:=Ok.sees hSw; clear hSw; simp only [sees,kBlk,cellsAt,Nat.reduceAdd] at F; go_simp; try with_reducible rfl)
 try simp only [Act.put,p1,p2,p3,p4,p5,p6]
 refine tg (i:=2) (v:=?a5) rfl ?b5 (by assumption) ?c5
 case b5 => (intro w hSw; have F:=Ok.sees hSw; clear hSw; simp only [sees,kBlk,cellsAt,Nat.reduceAdd] at F; go_simp; try with_reducible rfl)
 try simp only [Act.put,p1,p2,p3,p4,p5,p6]
 refine tg (i:=3) (v:=?a7) rfl ?b7 (by assumption) ?c7
 case b7 => (intro w hSw; have F:=Ok.sees hSw; clear hSw; simp only [sees,kBlk,cellsAt,Nat.reduceAdd] at F; go_simp; try with_reducible rfl)
 try simp only [Act.put,p1,p2,p3,p4,p5,p6]
 refine tg (i:=7) (v:=?a9) rfl ?b9 (by assumption) ?c9
 case b9 => (intro w hSw; have F:=Ok.sees hSw; clear hSw; simp only [sees,kBlk,cellsAt,Nat.reduceAdd] at F; go_simp; try with_reducible rfl)
 try simp only [Act.put,p1,p2,p3,p4,p5,p6]
 refine tg (i:=8) (v:=?a11) rfl ?b11 (by assumption) ?c11
 case b11 => (intro w hSw; have F:=Ok.sees hSw; clear hSw; simp only [sees,kBlk,cellsAt,Nat.reduceAdd] at F; go_simp; try with_reducible rfl)
 try simp only [Act.put,p1,p2,p3,p4,p5,p6]
 refine wpAnyH_ready (rs:=[4]) (by kernel_rfl) (by simp) ?_
 refine AllReadyH.cons rfl (fun K hK => ?_) AllReadyH.nil
 go_simp
 refine (law_number 1 _ (by decide) (by decide)).mono ?_
 rintro e w16 ⟨rfl,hb17⟩
 go_wp2_with fail
 have H18:=Lib.hid (H14.out.below hb17)
 clear hb17 H14
 refine hK.out _ _ (H18.out) (fun hHeld => ?_)
 clear hK K
 try simp only [Act.put,p1,p2,p3,p4,p5,p6]
 refine wpAnyH_ready (rs:=[5]) (by kernel_rfl) (by simp) ?_
 refine AllReadyH.cons rfl (fun K hK => ?_) AllReadyH.nil
 go_simp
 refine (law_number 2 _ (by decide) (by decide)).mono ?_
 rintro e w19 ⟨rfl,hb20⟩
 go_wp2_with fail
 have H21:=Lib.hid (H18.out.below hb20)
 clear hb20 H18
 refine hK.out _ _ (H21.out) (fun hHeld => ?_)
 clear hK K
 try simp only [Act.put,p1,p2,p3,p4,p5,p6]
 refine wpAnyH_ready (rs:=[6]) (by kernel_rfl) (by simp) ?_
 refine AllReadyH.cons rfl (fun K hK => ?_) AllReadyH.nil
 go_simp
 refine (law_number 3 _ (by decide) (by decide)).mono ?_
 rintro e w22 ⟨rfl,hb23⟩
 go_wp2_with fail
 have H24:=Lib.hid (H21.out.below hb23)
 clear hb23 H21
 refine hK.out _ _ (H24.out) (fun hHeld => ?_)
 clear hK K
 try simp only [Act.put,p1,p2,p3,p4,p5,p6]
 refine wpAnyH_ready (rs:=[9]) (by kernel_rfl) (by simp) ?_
 refine AllReadyH.cons rfl (fun K hK => ?_) AllReadyH.nil
 go_simp
 have H25:=Lib.hid (H24.out.alloc (w22.heap.size) 32 [.int .u8 1,.int .u8 1,.int .i64 10000,.string ⟨#[]⟩,.int .i64 0,.int .i64 0,.int .i64 0,.int .i64 0,.int .i64 0,.int .u8 0,.int .i64 0,.int .u8 1,.int .u8 1,.int .i64 20000,.string ⟨#[]⟩,.int .i64 0,.int .i64 0,.int .i64 0,.int .i64 0,.int .i64 0,.int .u8 0,.int .i64 0,.int .u8 1,.int .u8 1,.int .i64 30000,.string ⟨#[]⟩,.int .i64 0,.int .i64 0,.int .i64 0,.int .i64 0,.int .i64 0,.int .u8 0,.int .i64 0,.int .u8 6,.int .u8 0,.int .i64 0,.string ⟨#[]⟩,.int .i64 0,.int .i64 0,.int .i64 0,.int .i64 0,.int .i64 3,.int .u8 0,.int .i64 0,.int .u8 6,.int .u8 0,.int .i64 0,.string ⟨#[]⟩,.int .i64 0,.int .i64 0,.int .i64 0,.int .i64 0,.int .i64 1,.int .u8 0,.int .i64 0] rfl)
 clear H24
 refine hK.out _ _ (H25.out.tail) (fun hHeld => ?_)
 clear hK K
 try simp only [Act.put,p1,p2,p3,p4,p5,p6]
 generalize (w22.alloc (.cells #[.int .u8 1,.int .u8 1,.int .i64 10000,.string ⟨#[]⟩,.int .i64 0,.int .i64 0,.int .i64 0,.int .i64 0,.int .i64 0,.int .u8 0,.int .i64 0,.int .u8 1,.int .u8 1,.int .i64 20000,.string ⟨#[]⟩,.int .i64 0,.int .i64 0,.int .i64 0,.int .i64 0,.int .i64 0,.int .u8 0,.int .i64 0,.int .u8 1,.int .u8 1,.int .i64 30000,.string ⟨#[]⟩,.int .i64 0,.int .i64 0,.int .i64 0,.int .i64 0,.int .i64 0,.int .u8 0,.int .i64 0,.int .u8 6,.int .u8 0,.int .i64 0,.string ⟨#[]⟩,.int .i64 0,.int .i64 0,.int .i64 0,.int .i64 0,.int .i64 3,.int .u8 0,.int .i64 0,.int .u8 6,.int .u8 0,.int .i64 0,.string ⟨#[]⟩,.int .i64 0,.int .i64 0,.int .i64 0,.int .i64 0,.int .i64 1,.int .u8 0,.int .i64 0] 32)) = W26 at H25 hHeld ⊢
 refine wpAnyH_ready (rs:=[10]) (by kernel_rfl) (by simp) ?_
 refine AllReadyH.cons rfl (fun K hK => ?_) AllReadyH.nil
 have h9:=H25.out.all _ (List.mem_cons_self ..)
 have hb9 : Blk W26 (w22.heap.size) 32 (ndCells [ndNum 10000,ndNum 20000,ndNum 30000,ndBin 3,ndBin 1]).toArray:=h9
 clear h9
 have hr9:=(rows_get (l:=[ndNum 10000,ndNum 20000,ndNum 30000,ndBin 3,ndBin 1]) (H25.out.get (kRow w.heap.size 32 11 (.slice aa 5 ca) 5 (ndCells [ndNum 10000,ndNum 20000,ndNum 30000,ndBin 3,ndBin 1])) (by simp))).2
 go_simp
 refine (equal_tree [ndNum 10000,ndNum 20000,ndNum 30000,ndBin 3,ndBin 1] aa (some ⟨w22.heap.size,0,none⟩) ca 5 W26 (by decide) hr9 (rows_blk hb9)).mono ?_
 rintro e w27 ⟨rfl,hb28⟩
 go_wp2_with fail
 have H29:=Lib.hid (H25.out.below hb28)
 clear hb28 H25
 clear hb9 hr9
 refine hK.out _ _ (H29.out.tail) (fun hHeld => ?_)
 clear hK K
 try simp only [Act.put,p1,p2,p3,p4,p5,p6]
 refine tg (i:=11) (v:=?a18) rfl ?b18 (by assumption) ?c18
 case b18 => (intro w hSw; have F:=Ok.sees hSw; clear hSw; simp only [sees,kBlk,cellsAt,Nat.reduceAdd] at F; go_simp; try with_reducible rfl)
 try simp only [Act.put,p1,p2,p3,p4,p5,p6]
 refine tg (i:=12) (v:=?a20) rfl ?b20 (by assumption) ?c20
 case b20 => (intro w hSw; have F:=Ok.sees hSw; clear hSw; simp only [sees,kBlk,cellsAt,Nat.reduceAdd] at F; go_simp; try with_reducible rfl)
 try simp only [Act.put,p1,p2,p3,p4,p5,p6]
 refine tg (i:=13) (v:=?a22) rfl ?b22 (by assumption) ?c22
 case b22 => (intro w hSw; have F:=Ok.sees hSw; clear hSw; simp only [sees,kBlk,cellsAt,Nat.reduceAdd] at F; go_simp; try with_reducible rfl)
 try simp only [Act.put,p1,p2,p3,p4,p5,p6]
 refine tg (i:=14) (v:=?a24) rfl ?b24 (by assumption) ?c24
 case b24 => (intro w hSw; have F:=Ok.sees hSw; clear hSw; simp only [sees,kBlk,cellsAt,Nat.reduceAdd] at F; go_simp; try with_reducible rfl)
 try simp only [Act.put,p1,p2,p3,p4,p5,p6]
 refine tg (i:=15) (v:=?a26) rfl ?b26 (by assumption) ?c26
 case b26 => (intro w hSw; have F:=Ok.sees hSw; clear hSw; simp only [sees,kBlk,cellsAt,Nat.reduceAdd] at F; go_simp; try with_reducible rfl)
 try simp only [Act.put,p1,p2,p3,p4,p5,p6]
 refine tg (i:=16) (v:=?a28) rfl ?b28 (by assumption) ?c28
 case b28 => (intro w hSw; have F:=Ok.sees hSw; clear hSw; simp only [sees,kBlk,cellsAt,Nat.reduceAdd] at F; go_simp; try with_reducible rfl)
 try simp only [Act.put,p1,p2,p3,p4,p5,p6]
 refine tg (i:=17) (v:=?a30) rfl ?b30 (by assumption) ?c30
 case b30 => (intro w hSw; have F:=Ok.sees hSw; clear hSw; simp only [sees,kBlk,cellsAt,Nat.reduceAdd] at F; go_simp; try with_reducible rfl)
 try simp only [Act.put,p1,p2,p3,p4,p5,p6]
 refine tg (i:=20) (v:=?a32) rfl ?b32 (by assumption) ?c32
 case b32 => (intro w hSw; have F:=Ok.sees hSw; clear hSw; simp only [sees,kBlk,cellsAt,Nat.reduceAdd] at F; go_simp; try with_reducible rfl)
 try simp only [Act.put,p1,p2,p3,p4,p5,p6]
 refine tg (i:=21) (v:=?a34) rfl ?b34 (by assumption) ?c34
 case b34 => (intro w hSw; have F:=Ok.sees hSw; clear hSw; simp only [sees,kBlk,cellsAt,Nat.reduceAdd] at F; go_simp; try with_reducible rfl)
 try simp only [Act.put,p1,p2,p3,p4,p5,p6]
 refine wpAnyH_ready (rs:=[18]) (by kernel_rfl) (by simp) ?_
 refine AllReadyH.cons rfl (fun K hK => ?_) AllReadyH.nil
 go_simp
 refine (law_number 2 _ (by decide) (by decide)).mono ?_
 rintro e w30 ⟨rfl,hb31⟩
 go_wp2_with fail
 have H32:=Lib.hid (H29.out.below hb31)
 clear hb31 H29
 refine hK.out _ _ (H32.out.tail) (fun hHeld => ?_)
 clear hK K
 try simp only [Act.put,p1,p2,p3,p4,p5,p6]
 refine wpAnyH_ready (rs:=[19]) (by kernel_rfl) (by simp) ?_
 refine AllReadyH.cons rfl (fun K hK => ?_) AllReadyH.nil
 go_simp
 refine (law_number 2 _ (by decide) (by decide)).mono ?_
 rintro e w33 ⟨rfl,hb34⟩
 go_wp2_with fail
 have H35:=Lib.hid (H32.out.below hb34)
 clear hb34 H32
 refine hK.out _ _ (H35.out.tail) (fun hHeld => ?_)
 clear hK K
 try simp only [Act.put,p1,p2,p3,p4,p5,p6]
 refine wpAnyH_ready (rs:=[22]) (by kernel_rfl) (by simp) ?_
 refine AllReadyH.cons rfl (fun K hK => ?_) AllReadyH.nil
 go_simp
 have H36:=Lib.hid (H35.out.alloc (w33.heap.size) 32 [.int .u8 1,.int .u8 1,.int .i64 20000,.string ⟨#[]⟩,.int .i64 0,.int .i64 0,.int .i64 0,.int .i64 0,.int .i64 0,.int .u8 0,.int .i64 0,.int .u8 1,.int .u8 1,.int .i64 20000,.string ⟨#[]⟩,.int .i64 0,.int .i64 0,.int .i64 0,.int .i64 0,.int .i64 0,.int .u8 0,.int .i64 0,.int .u8 6,.int .u8 0,.int .i64 0,.string ⟨#[]⟩,.int .i64 0,.int .i64 0,.int .i64 0,.int .i64 0,.int .i64 5,.int .u8 0,.int .i64 0,.int .u8 4,.int .u8 0,.int .i64 0,.string ⟨#[]⟩,.int .i64 0,.int .i64 0,.int .i64 0,.int .i64 0,.int .i64 0,.int .u8 0,.int .i64 0] rfl)
 clear H35
 refine hK.out _ _ (H36.out.tail.tail) (fun hHeld => ?_)
 clear hK K
 try simp only [Act.put,p1,p2,p3,p4,p5,p6]
 generalize (w33.alloc (.cells #[.int .u8 1,.int .u8 1,.int .i64 20000,.string ⟨#[]⟩,.int .i64 0,.int .i64 0,.int .i64 0,.int .i64 0,.int .i64 0,.int .u8 0,.int .i64 0,.int .u8 1,.int .u8 1,.int .i64 20000,.string ⟨#[]⟩,.int .i64 0,.int .i64 0,.int .i64 0,.int .i64 0,.int .i64 0,.int .u8 0,.int .i64 0,.int .u8 6,.int .u8 0,.int .i64 0,.string ⟨#[]⟩,.int .i64 0,.int .i64 0,.int .i64 0,.int .i64 0,.int .i64 5,.int .u8 0,.int .i64 0,.int .u8 4,.int .u8 0,.int .i64 0,.string ⟨#[]⟩,.int .i64 0,.int .i64 0,.int .i64 0,.int .i64 0,.int .i64 0,.int .u8 0,.int .i64 0] 32)) = W37 at H36 hHeld ⊢
 refine wpAnyH_ready (rs:=[23]) (by kernel_rfl) (by simp) ?_
 refine AllReadyH.cons rfl (fun K hK => ?_) AllReadyH.nil
 have h9:=H36.out.all _ (List.mem_cons_self ..)
 have hb9 : Blk W37 (w33.heap.size) 32 (ndCells [ndNum 20000,ndNum 20000,ndBin 5,ndNeg]).toArray:=h9
 clear h9
 have hr9:=(rows_get (l:=[ndNum 20000,ndNum 20000,ndBin 5,ndNeg]) (H36.out.get (kRow w.heap.size 32 11 (.slice ab 4 cb) 4 (ndCells [ndNum 20000,ndNum 20000,ndBin 5,ndNeg])) (by simp))).2
 go_simp
 refine (equal_tree [ndNum 20000,ndNum 20000,ndBin 5,ndNeg] ab (some ⟨w33.heap.size,0,none⟩) cb 4 W37 (by decide) hr9 (rows_blk hb9)).mono ?_
 rintro e w38 ⟨rfl,hb39⟩
 go_wp2_with fail
 have H40:=Lib.hid (H36.out.below hb39)
 clear hb39 H36
 clear hb9 hr9
 refine hK.out _ _ (H40.out.tail.tail) (fun hHeld => ?_)
 clear hK K
 try simp only [Act.put,p1,p2,p3,p4,p5,p6]
 refine tg (i:=24) (v:=?a40) rfl ?b40 (by assumption) ?c40
 case b40 => (intro w hSw; have F:=Ok.sees hSw; clear hSw; simp only [sees,kBlk,cellsAt,Nat.reduceAdd] at F; go_simp; try with_reducible rfl)
 try simp only [Act.put,p1,p2,p3,p4,p5,p6]
 refine tg (i:=25) (v:=?a42) rfl ?b42 (by assumption) ?c42
 case b42 => (intro w hSw; have F:=Ok.sees hSw; clear hSw; simp only [sees,kBlk,cellsAt,Nat.reduceAdd] at F; go_simp; try with_reducible rfl)
 try simp only [Act.put,p1,p2,p3,p4,p5,p6]
 refine tg (i:=26) (v:=?a44) rfl ?b44 (by assumption) ?c44
 case b44 => (intro w hSw; have F:=Ok.sees hSw; clear hSw; simp only [sees,kBlk,cellsAt,Nat.reduceAdd] at F; go_simp; try with_reducible rfl)
 try simp only [Act.put,p1,p2,p3,p4,p5,p6]
 refine tg (i:=27) (v:=?a46) rfl ?b46 (by assumption) ?c46
 case b46 => (intro w hSw; have F:=Ok.sees hSw; clear hSw; simp only [sees,kBlk,cellsAt,Nat.reduceAdd] at F; go_simp; try with_reducible rfl)
 try simp only [Act.put,p1,p2,p3,p4,p5,p6]
 refine tg (i:=28) (v:=?a48) rfl ?b48 (by assumption) ?c48
 case b48 => (intro w hSw; have F:=Ok.sees hSw; clear hSw; simp only [sees,kBlk,cellsAt,Nat.reduceAdd] at F; go_simp; try with_reducible rfl)
 try simp only [Act.put,p1,p2,p3,p4,p5,p6]
 refine tg (i:=29) (v:=?a50) rfl ?b50 (by assumption) ?c50
 case b50 => (intro w hSw; have F:=Ok.sees hSw; clear hSw; simp only [sees,kBlk,cellsAt,Nat.reduceAdd] at F; go_simp; try with_reducible rfl)
 try simp only [Act.put,p1,p2,p3,p4,p5,p6]
 refine tg (i:=30) (v:=?a52) rfl ?b52 (by assumption) ?c52
 case b52 => (intro w hSw; have F:=Ok.sees hSw; clear hSw; simp only [sees,kBlk,cellsAt,Nat.reduceAdd] at F; go_simp; try with_reducible rfl)
 try simp only [Act.put,p1,p2,p3,p4,p5,p6]
 refine tg (i:=34) (v:=?a54) rfl ?b54 (by assumption) ?c54
 case b54 => (intro w hSw; have F:=Ok.sees hSw; clear hSw; simp only [sees,kBlk,cellsAt,Nat.reduceAdd] at F; go_simp; try with_reducible rfl)
 try simp only [Act.put,p1,p2,p3,p4,p5,p6]
 refine tg (i:=35) (v:=?a56) rfl ?b56 (by assumption) ?c56
 case b56 => (intro w hSw; have F:=Ok.sees hSw; clear hSw; simp only [sees,kBlk,cellsAt,Nat.reduceAdd] at F; go_simp; try with_reducible rfl)
 try simp only [Act.put,p1,p2,p3,p4,p5,p6]
 refine wpAnyH_ready (rs:=[31]) (by kernel_rfl) (by simp) ?_
 refine AllReadyH.cons rfl (fun K hK => ?_) AllReadyH.nil
 go_simp
 refine (law_number 2 _ (by decide) (by decide)).mono ?_
 rintro e w41 ⟨rfl,hb42⟩
 go_wp2_with fail
 have H43:=Lib.hid (H40.out.below hb42)
 clear hb42 H40
 refine hK.out _ _ (H43.out.tail.tail) (fun hHeld => ?_)
 clear hK K
 try simp only [Act.put,p1,p2,p3,p4,p5,p6]
 refine wpAnyH_ready (rs:=[32]) (by kernel_rfl) (by simp) ?_
 refine AllReadyH.cons rfl (fun K hK => ?_) AllReadyH.nil
 go_simp
 refine (law_number 3 _ (by decide) (by decide)).mono ?_
 rintro e w44 ⟨rfl,hb45⟩
 go_wp2_with fail
 have H46:=Lib.hid (H43.out.below hb45)
 clear hb45 H43
 refine hK.out _ _ (H46.out.tail.tail) (fun hHeld => ?_)
 clear hK K
 try simp only [Act.put,p1,p2,p3,p4,p5,p6]
 refine wpAnyH_ready (rs:=[33]) (by kernel_rfl) (by simp) ?_
 refine AllReadyH.cons rfl (fun K hK => ?_) AllReadyH.nil
 go_simp
 refine (law_number 2 _ (by decide) (by decide)).mono ?_
 rintro e w47 ⟨rfl,hb48⟩
 go_wp2_with fail
 have H49:=Lib.hid (H46.out.below hb48)
 clear hb48 H46
 refine hK.out _ _ (H49.out.tail.tail) (fun hHeld => ?_)
 clear hK K
 try simp only [Act.put,p1,p2,p3,p4,p5,p6]
 refine wpAnyH_ready (rs:=[36]) (by kernel_rfl) (by simp) ?_
 refine AllReadyH.cons rfl (fun K hK => ?_) AllReadyH.nil
 go_simp
 have H50:=Lib.hid (H49.out.alloc (w47.heap.size) 32 [.int .u8 1,.int .u8 1,.int .i64 20000,.string ⟨#[]⟩,.int .i64 0,.int .i64 0,.int .i64 0,.int .i64 0,.int .i64 0,.int .u8 0,.int .i64 0,.int .u8 1,.int .u8 1,.int .i64 30000,.string ⟨#[]⟩,.int .i64 0,.int .i64 0,.int .i64 0,.int .i64 0,.int .i64 0,.int .u8 0,.int .i64 0,.int .u8 1,.int .u8 1,.int .i64 20000,.string ⟨#[]⟩,.int .i64 0,.int .i64 0,.int .i64 0,.int .i64 0,.int .i64 0,.int .u8 0,.int .i64 0,.int .u8 6,.int .u8 0,.int .i64 0,.string ⟨#[]⟩,.int .i64 0,.int .i64 0,.int .i64 0,.int .i64 0,.int .i64 5,.int .u8 0,.int .i64 0,.int .u8 6,.int .u8 0,.int .i64 0,.string ⟨#[]⟩,.int .i64 0,.int .i64 0,.int .i64 0,.int .i64 0,.int .i64 5,.int .u8 0,.int .i64 0] rfl)
 clear H49
 refine hK.out _ _ (H50.out.tail.tail.tail) (fun hHeld => ?_)
 clear hK K
 try simp only [Act.put,p1,p2,p3,p4,p5,p6]
 generalize (w47.alloc (.cells #[.int .u8 1,.int .u8 1,.int .i64 20000,.string ⟨#[]⟩,.int .i64 0,.int .i64 0,.int .i64 0,.int .i64 0,.int .i64 0,.int .u8 0,.int .i64 0,.int .u8 1,.int .u8 1,.int .i64 30000,.string ⟨#[]⟩,.int .i64 0,.int .i64 0,.int .i64 0,.int .i64 0,.int .i64 0,.int .u8 0,.int .i64 0,.int .u8 1,.int .u8 1,.int .i64 20000,.string ⟨#[]⟩,.int .i64 0,.int .i64 0,.int .i64 0,.int .i64 0,.int .i64 0,.int .u8 0,.int .i64 0,.int .u8 6,.int .u8 0,.int .i64 0,.string ⟨#[]⟩,.int .i64 0,.int .i64 0,.int .i64 0,.int .i64 0,.int .i64 5,.int .u8 0,.int .i64 0,.int .u8 6,.int .u8 0,.int .i64 0,.string ⟨#[]⟩,.int .i64 0,.int .i64 0,.int .i64 0,.int .i64 0,.int .i64 5,.int .u8 0,.int .i64 0] 32)) = W51 at H50 hHeld ⊢
 refine wpAnyH_ready (rs:=[37]) (by kernel_rfl) (by simp) ?_
 refine AllReadyH.cons rfl (fun K hK => ?_) AllReadyH.nil
 have h9:=H50.out.all _ (List.mem_cons_self ..)
 have hb9 : Blk W51 (w47.heap.size) 32 (ndCells [ndNum 20000,ndNum 30000,ndNum 20000,ndBin 5,ndBin 5]).toArray:=h9
 clear h9
 have hr9:=(rows_get (l:=[ndNum 20000,ndNum 30000,ndNum 20000,ndBin 5,ndBin 5]) (H50.out.get (kRow w.heap.size 32 11 (.slice ac 5 cc) 5 (ndCells [ndNum 20000,ndNum 30000,ndNum 20000,ndBin 5,ndBin 5])) (by simp))).2
 go_simp
 refine (equal_tree [ndNum 20000,ndNum 30000,ndNum 20000,ndBin 5,ndBin 5] ac (some ⟨w47.heap.size,0,none⟩) cc 5 W51 (by decide) hr9 (rows_blk hb9)).mono ?_
 rintro e w52 ⟨rfl,hb53⟩
 go_wp2_with fail
 have H54:=Lib.hid (H50.out.below hb53)
 clear hb53 H50
 clear hb9 hr9
 refine hK.out _ _ (H54.out.tail.tail.tail) (fun hHeld => ?_)
 clear hK K
 try simp only [Act.put,p1,p2,p3,p4,p5,p6]
 refine tg (i:=38) (v:=?a63) rfl ?b63 (by assumption) ?c63
 case b63 => (intro w hSw; have F:=Ok.sees hSw; clear hSw; simp only [sees,kBlk,cellsAt,Nat.reduceAdd] at F; go_simp; try with_reducible rfl)
 try simp only [Act.put,p1,p2,p3,p4,p5,p6]
 refine tg (i:=39) (v:=?a65) rfl ?b65 (by assumption) ?c65
 case b65 => (intro w hSw; have F:=Ok.sees hSw; clear hSw; simp only [sees,kBlk,cellsAt,Nat.reduceAdd] at F; go_simp; try with_reducible rfl)
 try simp only [Act.put,p1,p2,p3,p4,p5,p6]
 refine tg (i:=40) (v:=?a67) rfl ?b67 (by assumption) ?c67
 case b67 => (intro w hSw; have F:=Ok.sees hSw; clear hSw; simp only [sees,kBlk,cellsAt,Nat.reduceAdd] at F; go_simp; try with_reducible rfl)
 try simp only [Act.put,p1,p2,p3,p4,p5,p6]
 refine tg (i:=41) (v:=?a69) rfl ?b69 (by assumption) ?c69
 case b69 => (intro w hSw; have F:=Ok.sees hSw; clear hSw; simp only [sees,kBlk,cellsAt,Nat.reduceAdd] at F; go_simp; try with_reducible rfl)
 try simp only [Act.put,p1,p2,p3,p4,p5,p6]
 refine tg (i:=42) (v:=?a71) rfl ?b71 (by assumption) ?c71
 case b71 => (intro w hSw; have F:=Ok.sees hSw; clear hSw; simp only [sees,kBlk,cellsAt,Nat.reduceAdd] at F; go_simp; try with_reducible rfl)
 try simp only [Act.put,p1,p2,p3,p4,p5,p6]
 refine tg (i:=43) (v:=?a73) rfl ?b73 (by assumption) ?c73
 case b73 => (intro w hSw; have F:=Ok.sees hSw; clear hSw; simp only [sees,kBlk,cellsAt,Nat.reduceAdd] at F; go_simp; try with_reducible rfl)
 try simp only [Act.put,p1,p2,p3,p4,p5,p6]
 refine tg (i:=44) (v:=?a75) rfl ?b75 (by assumption) ?c75
 case b75 => (intro w hSw; have F:=Ok.sees hSw; clear hSw; simp only [sees,kBlk,cellsAt,Nat.reduceAdd] at F; go_simp; try with_reducible rfl)
 try simp only [Act.put,p1,p2,p3,p4,p5,p6]
 refine tg (i:=45) (v:=?a77) rfl ?b77 (by assumption) ?c77
 case b77 => (intro w hSw; have F:=Ok.sees hSw; clear hSw; simp only [sees,kBlk,cellsAt,Nat.reduceAdd] at F; go_simp; try with_reducible rfl)
 try simp only [Act.put,p1,p2,p3,p4,p5,p6]
 refine tg (i:=46) (v:=?a79) rfl ?b79 (by assumption) ?c79
 case b79 => (intro w hSw; have F:=Ok.sees hSw; clear hSw; simp only [sees,kBlk,cellsAt,Nat.reduceAdd] at F; go_simp; try with_reducible rfl)
 try simp only [Act.put,p1,p2,p3,p4,p5,p6]
 refine tg (i:=47) (v:=?a81) rfl ?b81 (by assumption) ?c81
 case b81 => (intro w hSw; have F:=Ok.sees hSw; clear hSw; simp only [sees,kBlk,cellsAt,Nat.reduceAdd] at F; go_simp; try with_reducible rfl)
 try simp only [Act.put,p1,p2,p3,p4,p5,p6]
 refine tg (i:=48) (v:=?a83) rfl ?b83 (by assumption) ?c83
 case b83 => (intro w hSw; have F:=Ok.sees hSw; clear hSw; simp only [sees,kBlk,cellsAt,Nat.reduceAdd] at F; go_simp; try with_reducible rfl)
 try simp only [Act.put,p1,p2,p3,p4,p5,p6]
 refine tg (i:=49) (v:=?a85) rfl ?b85 (by assumption) ?c85
 case b85 => (intro w hSw; have F:=Ok.sees hSw; clear hSw; simp only [sees,kBlk,cellsAt,Nat.reduceAdd] at F; go_simp; try with_reducible rfl)
 try simp only [Act.put,p1,p2,p3,p4,p5,p6]
 refine tg (i:=50) (v:=?a87) rfl ?b87 (by assumption) ?c87
 case b87 => (intro w hSw; have F:=Ok.sees hSw; clear hSw; simp only [sees,kBlk,cellsAt,Nat.reduceAdd] at F; go_simp; try with_reducible rfl)
 try simp only [Act.put,p1,p2,p3,p4,p5,p6]
 refine tg (i:=51) (v:=?a89) rfl ?b89 (by assumption) ?c89
 case b89 => (intro w hSw; have F:=Ok.sees hSw; clear hSw; simp only [sees,kBlk,cellsAt,Nat.reduceAdd] at F; go_simp; try with_reducible rfl)
 try simp only [Act.put,p1,p2,p3,p4,p5,p6]
 refine tg (i:=52) (v:=?a91) rfl ?b91 (by assumption) ?c91
 case b91 => (intro w hSw; have F:=Ok.sees hSw; clear hSw; simp only [sees,kBlk,cellsAt,Nat.reduceAdd] at F; go_simp; try with_reducible rfl)
 try simp only [Act.put,p1,p2,p3,p4,p5,p6]
 refine tg (i:=53) (v:=?a93) rfl ?b93 (by assumption) ?c93
 case b93 => (intro w hSw; have F:=Ok.sees hSw; clear hSw; simp only [sees,kBlk,cellsAt,Nat.reduceAdd] at F; go_simp; try with_reducible rfl)
 try simp only [Act.put,p1,p2,p3,p4,p5,p6]
 refine tg (i:=54) (v:=?a95) rfl ?b95 (by assumption) ?c95
 case b95 => (intro w hSw; have F:=Ok.sees hSw; clear hSw; simp only [sees,kBlk,cellsAt,Nat.reduceAdd] at F; go_simp; try with_reducible rfl)
 try simp only [Act.put,p1,p2,p3,p4,p5,p6]
 refine tg (i:=55) (v:=?a97) rfl ?b97 (by assumption) ?c97
 case b97 => (intro w hSw; have F:=Ok.sees hSw; clear hSw; simp only [sees,kBlk,cellsAt,Nat.reduceAdd] at F; go_simp; try with_reducible rfl)
 try simp only [Act.put,List.setIfInBounds_toArray,List.set_cons_zero,List.getElem_toArray,List.getElem_cons_succ,List.getElem_cons_zero]
 refine wpAnyH_done (by kernel_rfl) ?_ _
 clear hHeld
 go_wp2_with fail
 go_ret
 exact ⟨rfl,H54.out.bel⟩
end Go.Proofs.YtlngjiibbcgkmaaGreatDoor
