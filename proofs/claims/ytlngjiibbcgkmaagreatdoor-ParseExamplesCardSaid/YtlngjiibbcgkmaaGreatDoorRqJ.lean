/- The contract of the reference's Formula. -/
import Derived.Test.YtlngjiibbcgkmaaGreatDoorRqI
import Derived.Test.YtlngjiibbcgkmaaGreatDoorOk
import Derived.Test.YtlngjiibbcgkmaaGreatDoorRqL
import Derived.Test.YtlngjiibbcgkmaaGreatDoorR8E
import Derived.Test.YtlngjiibbcgkmaaGreatDoorForB
namespace Go.Proofs.YtlngjiibbcgkmaaGreatDoor
open Go.RowKit
set_option maxRecDepth 100000 in
set_option maxHeartbeats 8000000 in
theorem ref9_Formula (s : ByteArray) (w : World) (hs : s.size ≤ 4611686018427387904) :
  Calls Tryz.prog 12 #[.string s] w (FormOut s.data.toList w):=by
 have HS:=keep hs
 obtain ⟨T,hT⟩ : ∃ T,tokensS s.data.toList = T:=⟨_,rfl⟩
 have HTT:=keep hT
 go_enter Tryz.func12,Tryz.ntmps12
 go_wp2_with fail
 refine (ref7_Tokens s w hs).mono ?_
 rintro e w2 ⟨tv,rfl,hown,hb⟩
 rw [hT] at hown ⊢
 clear hT
 obtain ⟨ts,ta,te⟩:=T
 simp only [] at hown ⊢
 have HB2:=Lib.hid hb
 by_cases hte : te = 0
 ·subst hte
  obtain ⟨hta0,h256,hpl,hlex⟩:=tokens_ok HTT.out
  subst hta0
  have HGT:=keep (tokens_good HTT.out)
  have hls : s.data.toList.length = s.size:=Array.length_toList
  have hts : ts.length ≤ 256:=Nat.le_trans hlex.len h256
  obtain ⟨r,hr,hform⟩:=form_of HTT.out
  rw [hls] at hform
  unfold parT at hr
  rw [hls] at hr
  have HF:=keep hform
  have HRR:=keep hr
  obtain ⟨la,c,rfl,HTK⟩:=toks_at hown
  obtain ⟨pb,hpb⟩ : ∃ pb,w2.heap.size = pb:=⟨_,rfl⟩
  have HST:=Lib.hid (show RSt w2 [] pb s ts 0 [] 0 0 (w2.alloc (.cells #[.string s,.slice la ts.length c,.int .i64 0,.slice none 0 0,.int .i64 0,.int .i64 0] 62)) from
   ⟨by omega,by simp,la,c,.slice none 0 0,HTK,by subst hpb; exact OkRow.start ((Ok.start w2).var w2.heap.size 62 [.string s,.slice la ts.length c,.int .i64 0,.slice none 0 0,.int .i64 0,.int .i64 0] rfl) _ _⟩)
  have hag:=rf_all (e:=s.size) (all:=ts) (m:=12 * ts.length + needM (.lv 1)) (by simp only [needM]; omega) hr
  have hbd:=rf_num (e:=s.size) (all:=ts) (f:=12 * ts.length + needM (.lv 1)) (m:=.lv 1) (q:=⟨0,[],0,0,0⟩) (by omega) (Nat.zero_le _) (by simp [Mr.sl])
  have hrc:=fun W (h9 : RSt w2 [] pb s ts 0 [] 0 0 W) => rc_all _ _ (Nat.le_refl _) w2 [] pb s ts ⟨0,[],0,0,0⟩ (.lv 1) W (by omega) hs (Nat.zero_le _) (by simp [Mr.sl]) (show 12 * (ts.length - 0) + needR (.lv 1) ≤ 12 * ts.length + needM (.lv 1) by simp only [needR,needM]; omega) h9 (by omega) (by omega)
  obtain ⟨⟨i2,ns2,a2,c2,n2⟩,hX⟩ : ∃ q,rf s.size ts (12 * ts.length + needM (.lv 1)) (.lv 1) ⟨0,[],0,0,0⟩ = q:=⟨_,rfl⟩
  rw [hX] at hag hbd hrc
  simp only [Mr.sl] at hbd
  obtain ⟨-,hbd2,hbd3,hbd4⟩:=hbd
  have HC:=keep hrc
  have HAG:=keep hag
  clear hrc hX hag hr hform hlex hpl h256 hls HTK hown hb
  go_wp2_with fail
  generalize (w2.alloc (.cells #[.string s,.slice la ts.length c,.int .i64 0,.slice none 0 0,.int .i64 0,.int .i64 0] 62)) = w4 at HST ⊢
  refine (HC.out _ HST.out).mono ?_
  rintro e w5 ⟨rfl,hst⟩
  have hst : RSt w2 [] pb s ts i2 ns2 a2 c2 w5:=hst
  have H5:=Lib.hid hst
  clear hst HC HST hpb
  cases r with
  | bad fa fc =>
   obtain ⟨ha2,hc2,hc0⟩ : a2 = (fa : Int) ∧ c2 = fc ∧ fc ≠ 0:=HAG.out
   subst ha2 hc2
   have hcb : ((c2 : Int) != 0) = true:=by simpa using hc0
   have HC0:=keep hc0
   have HF2:=keep (show formS s.data.toList = ([],(fa : Int),c2) from HF.out)
   clear hc0
   by_cases hi2 : (i2 : Int) < (ts.length : Int)
   ·obtain ⟨⟨tk,tn,tt,⟨t1,t2,t3,t4⟩,tat⟩,ht1⟩ : ∃ t,hdS s.size (ts.drop i2) = t:=⟨_,rfl⟩
    have HT1:=keep ht1
    have hfa:=fld_at
    clear ht1
    obtain ⟨la3,lc3,tv3,-,⟨x0,x1⟩,cc0,cc1,cc2,cc3,cc4,cc5⟩:=H5.out.cells
    go_upto_region 6 with fail
    refine wp_region_held_drew (S:=fun W => pb < W.heap.size ∧ W.cell? ⟨pb,1,none⟩ = some (.slice la3 ts.length lc3) ∧ W.cell? ⟨pb,2,none⟩ = some (.int .i64 (i2 : Int))) (by kernel_rfl) ⟨x0,cc1,cc2⟩ (fun hHeld => ?_)
    refine tg (i:=0) (v:=?a1) rfl ?b1 (by assumption) ?c1
    case b1 => (intro w hSw; obtain ⟨y0,y1,y2⟩:=hSw; go_simp; try with_reducible rfl)
    try simp only [Act.put,p1,p2,p3,p4,p6]
    refine tg (i:=1) (v:=?a3) rfl ?b3 (by assumption) ?c3
    case b3 => (intro w hSw; obtain ⟨y0,y1,y2⟩:=hSw; go_simp; try with_reducible rfl)
    try simp only [Act.put,p1,p2,p3,p4,p5,p6]
    refine tg (i:=2) (v:=?a5) rfl ?b5 (by assumption) ?c5
    case b5 => (intro w hSw; obtain ⟨y0,y1,y2⟩:=hSw; go_simp; try with_reducible rfl)
    try simp only [Act.put,p1,p2,p3,p4,p5,p6]
    refine tg (i:=3) (v:=?a7) rfl ?b7 (by assumption) ?c7
    case b7 => (intro w hSw; obtain ⟨y0,y1,y2⟩:=hSw; go_simp; try with_reducible rfl)
    try simp only [Act.put,p1,p2,p3,p4,p5,p6]
    refine tg (i:=4) (v:=?a9) rfl ?b9 (by assumption) ?c9
    case b9 => (intro w hSw; obtain ⟨y0,y1,y2⟩:=hSw; go_simp; try with_reducible rfl)
    try simp only [Act.put,p1,p2,p3,p4,p5,p6]
    refine tg (i:=5) (v:=?a11) rfl ?b11 (by assumption) ?c11
    case b11 => (intro w hSw; obtain ⟨y0,y1,y2⟩:=hSw; go_simp; try with_reducible rfl)
    try simp only [Act.put,p1,p2,p3,p4,p5,p6]
    refine tg (i:=6) (v:=?a13) rfl ?b13 (by assumption) ?c13
    case b13 => (intro w hSw; obtain ⟨y0,y1,y2⟩:=hSw; go_simp; try with_reducible rfl)
    try simp only [Act.put,p1,p2,p3,p4,p5,p6]
    refine tg (i:=7) (v:=?a15) rfl ?b15 (by assumption) ?c15
    case b15 => (intro w hSw; obtain ⟨y0,y1,y2⟩:=hSw; go_simp; try with_reducible rfl)
    try simp only [Act.put,p1,p2,p3,p4,p5,p6]
    refine tg (i:=8) (v:=?a17) rfl ?b17 (by assumption) ?c17
    case b17 => (intro w hSw; obtain ⟨y0,y1,y2⟩:=hSw; go_simp; try with_reducible rfl)
    try simp only [Act.put,p1,p2,p3,p4,p5,p6]
    refine tg (i:=9) (v:=?a19) rfl ?b19 (by assumption) ?c19
    case b19 => (intro w hSw; obtain ⟨y0,y1,y2⟩:=hSw; go_simp; try with_reducible rfl)
    try simp only [Act.put,p1,p2,p3,p4,p5,p6]
    refine wpAnyH_done (by kernel_rfl) ?_ _
    clear hHeld
    clear x0 x1 cc0 cc1 cc2 cc3 cc4 cc5
    have H6:=Lib.hid (H5.out.below ((Below.refl _ _).drew))
    clear H5
    generalize w5.drew = w6 at H6 ⊢
    go_wp2_with fail
    refine (r_next w2 [] pb s ts i2 ns2 ((fa : Int)) (c2) _ (by omega) (by omega) HS.out H6.out).mono ?_
    rintro e w7 ⟨rfl,hbx⟩
    rw [HT1.out]
    have H7:=Lib.hid (H6.out.below hbx)
    clear hbx H6
    simp only [tkA]
    go_wp2_with fail
    refine (r_fault w2 [] pb s ts i2 ns2 ((fa : Int)) (c2) _ _ _ H7.out).mono ?_
    rintro e w8 ⟨rfl,hst⟩
    have hst : RSt w2 [] pb s ts i2 ns2 (fa : Int) c2 w8:=by
     have h9 : RSt w2 [] pb s ts i2 ns2 (firstF c2 _ (fa : Int)) (firstF c2 4 c2) w8:=hst
     rw [show ∀ x y : Int,firstF c2 x y = y from fun x y => if_neg HC0.out,show ∀ x y : Int,firstF c2 x y = y from fun x y => if_neg HC0.out] at h9
     exact h9
    have H8:=Lib.hid hst
    clear hst H7
    obtain ⟨la3,lc3,tv3,-,⟨x0,x1⟩,cc0,cc1,cc2,cc3,cc4,cc5⟩:=H8.out.cells
    go_upto_region 9 with fail
    refine wp_region_held_drew (S:=fun W => pb < W.heap.size ∧ W.cell? ⟨pb,4,none⟩ = some (.int .i64 ((fa : Int))) ∧ W.cell? ⟨pb,5,none⟩ = some (.int .i64 (c2))) (by kernel_rfl) ⟨x0,cc4,cc5⟩ (fun hHeld => ?_)
    refine tg (i:=0) (v:=?a21) rfl ?b21 (by assumption) ?c21
    case b21 => (intro w hSw; obtain ⟨y0,y1,y2⟩:=hSw; go_simp; try with_reducible rfl)
    try simp only [Act.put,p1,p2,p3,p4,p6]
    refine tg (i:=1) (v:=?a23) rfl ?b23 (by assumption) ?c23
    case b23 => (intro w hSw; obtain ⟨y0,y1,y2⟩:=hSw; go_simp; try with_reducible rfl)
    try simp only [Act.put,p1,p2,p3,p4,p5,p6]
    refine tg (i:=2) (v:=?a25) rfl ?b25 (by assumption) ?c25
    case b25 => (intro w hSw; obtain ⟨y0,y1,y2⟩:=hSw; go_simp; try with_reducible rfl)
    try simp only [Act.put,p1,p2,p3,p4,p5,p6]
    refine tg (i:=3) (v:=?a27) rfl ?b27 (by assumption) ?c27
    case b27 => (intro w hSw; obtain ⟨y0,y1,y2⟩:=hSw; go_simp; try with_reducible rfl)
    try simp only [Act.put,p1,p2,p3,p4,p5,p6]
    refine tg (i:=4) (v:=?a29) rfl ?b29 (by assumption) ?c29
    case b29 => (intro w hSw; obtain ⟨y0,y1,y2⟩:=hSw; go_simp; try with_reducible rfl)
    try simp only [Act.put,p1,p2,p3,p4,p5,p6]
    refine tg (i:=5) (v:=?a31) rfl ?b31 (by assumption) ?c31
    case b31 => (intro w hSw; obtain ⟨y0,y1,y2⟩:=hSw; go_simp; try with_reducible rfl)
    try simp only [Act.put,p1,p2,p3,p4,p5,p6]
    refine tg (i:=6) (v:=?a33) rfl ?b33 (by assumption) ?c33
    case b33 => (intro w hSw; obtain ⟨y0,y1,y2⟩:=hSw; go_simp; try with_reducible rfl)
    try simp only [Act.put,p1,p2,p3,p4,p5,p6]
    refine tg (i:=7) (v:=?a35) rfl ?b35 (by assumption) ?c35
    case b35 => (intro w hSw; obtain ⟨y0,y1,y2⟩:=hSw; go_simp; try with_reducible rfl)
    try simp only [Act.put,p1,p2,p3,p4,p5,p6]
    refine tg (i:=8) (v:=?a37) rfl ?b37 (by assumption) ?c37
    case b37 => (intro w hSw; obtain ⟨y0,y1,y2⟩:=hSw; go_simp; try with_reducible rfl)
    try simp only [Act.put,p1,p2,p3,p4,p5,p6]
    refine tg (i:=9) (v:=?a39) rfl ?b39 (by assumption) ?c39
    case b39 => (intro w hSw; obtain ⟨y0,y1,y2⟩:=hSw; go_simp; try with_reducible rfl)
    try simp only [Act.put,p1,p2,p3,p4,p5,p6]
    refine tg (i:=10) (v:=?a41) rfl ?b41 (by assumption) ?c41
    case b41 => (intro w hSw; obtain ⟨y0,y1,y2⟩:=hSw; go_simp; try with_reducible rfl)
    try simp only [Act.put,p1,p2,p3,p4,p5,p6]
    refine wpAnyH_done (by kernel_rfl) ?_ _
    clear hHeld
    clear x0 x1 cc0 cc1 cc2 cc3 cc4 cc5
    have HZ:=Lib.hid (H8.out.below ((Below.refl _ _).drew))
    clear H8
    generalize w8.drew = wz at HZ ⊢
    go_wp2_with fail
    exact bodyPost_ret (v:=.tuple #[.slice none 0 0,.int .i64 ((fa : Int)),.int .i64 (c2)]) (by simp [results,Tryz.results12,go_sem]) rfl (form_nil (HF2.out) (HB2.out.trans (HZ.out.bel.mono HB2.out.size)))
   ·obtain ⟨la3,lc3,tv3,-,⟨x0,x1⟩,cc0,cc1,cc2,cc3,cc4,cc5⟩:=H5.out.cells
    go_upto_region 6 with fail
    refine wp_region_held_drew (S:=fun W => pb < W.heap.size ∧ W.cell? ⟨pb,1,none⟩ = some (.slice la3 ts.length lc3) ∧ W.cell? ⟨pb,2,none⟩ = some (.int .i64 (i2 : Int))) (by kernel_rfl) ⟨x0,cc1,cc2⟩ (fun hHeld => ?_)
    refine tg (i:=0) (v:=?a43) rfl ?b43 (by assumption) ?c43
    case b43 => (intro w hSw; obtain ⟨y0,y1,y2⟩:=hSw; go_simp; try with_reducible rfl)
    try simp only [Act.put,p1,p2,p3,p4,p6]
    refine tg (i:=1) (v:=?a45) rfl ?b45 (by assumption) ?c45
    case b45 => (intro w hSw; obtain ⟨y0,y1,y2⟩:=hSw; go_simp; try with_reducible rfl)
    try simp only [Act.put,p1,p2,p3,p4,p5,p6]
    refine tg (i:=2) (v:=?a47) rfl ?b47 (by assumption) ?c47
    case b47 => (intro w hSw; obtain ⟨y0,y1,y2⟩:=hSw; go_simp; try with_reducible rfl)
    try simp only [Act.put,p1,p2,p3,p4,p5,p6]
    refine tg (i:=3) (v:=?a49) rfl ?b49 (by assumption) ?c49
    case b49 => (intro w hSw; obtain ⟨y0,y1,y2⟩:=hSw; go_simp; try with_reducible rfl)
    try simp only [Act.put,p1,p2,p3,p4,p5,p6]
    refine tg (i:=4) (v:=?a51) rfl ?b51 (by assumption) ?c51
    case b51 => (intro w hSw; obtain ⟨y0,y1,y2⟩:=hSw; go_simp; try with_reducible rfl)
    try simp only [Act.put,p1,p2,p3,p4,p5,p6]
    refine tg (i:=5) (v:=?a53) rfl ?b53 (by assumption) ?c53
    case b53 => (intro w hSw; obtain ⟨y0,y1,y2⟩:=hSw; go_simp; try with_reducible rfl)
    try simp only [Act.put,p1,p2,p3,p4,p5,p6]
    refine tg (i:=6) (v:=?a55) rfl ?b55 (by assumption) ?c55
    case b55 => (intro w hSw; obtain ⟨y0,y1,y2⟩:=hSw; go_simp; try with_reducible rfl)
    try simp only [Act.put,p1,p2,p3,p4,p5,p6]
    refine tg (i:=7) (v:=?a57) rfl ?b57 (by assumption) ?c57
    case b57 => (intro w hSw; obtain ⟨y0,y1,y2⟩:=hSw; go_simp; try with_reducible rfl)
    try simp only [Act.put,p1,p2,p3,p4,p5,p6]
    refine tg (i:=8) (v:=?a59) rfl ?b59 (by assumption) ?c59
    case b59 => (intro w hSw; obtain ⟨y0,y1,y2⟩:=hSw; go_simp; try with_reducible rfl)
    try simp only [Act.put,p1,p2,p3,p4,p5,p6]
    refine tg (i:=9) (v:=?a61) rfl ?b61 (by assumption) ?c61
    case b61 => (intro w hSw; obtain ⟨y0,y1,y2⟩:=hSw; go_simp; try with_reducible rfl)
    try simp only [Act.put,p1,p2,p3,p4,p5,p6]
    refine wpAnyH_done (by kernel_rfl) ?_ _
    clear hHeld
    clear x0 x1 cc0 cc1 cc2 cc3 cc4 cc5
    have H6:=Lib.hid (H5.out.below ((Below.refl _ _).drew))
    clear H5
    generalize w5.drew = w6 at H6 ⊢
    obtain ⟨la3,lc3,tv3,-,⟨x0,x1⟩,cc0,cc1,cc2,cc3,cc4,cc5⟩:=H6.out.cells
    go_upto_region 9 with fail
    refine wp_region_held_drew (S:=fun W => pb < W.heap.size ∧ W.cell? ⟨pb,4,none⟩ = some (.int .i64 ((fa : Int))) ∧ W.cell? ⟨pb,5,none⟩ = some (.int .i64 (c2))) (by kernel_rfl) ⟨x0,cc4,cc5⟩ (fun hHeld => ?_)
    refine tg (i:=0) (v:=?a63) rfl ?b63 (by assumption) ?c63
    case b63 => (intro w hSw; obtain ⟨y0,y1,y2⟩:=hSw; go_simp; try with_reducible rfl)
    try simp only [Act.put,p1,p2,p3,p4,p6]
    refine tg (i:=1) (v:=?a65) rfl ?b65 (by assumption) ?c65
    case b65 => (intro w hSw; obtain ⟨y0,y1,y2⟩:=hSw; go_simp; try with_reducible rfl)
    try simp only [Act.put,p1,p2,p3,p4,p5,p6]
    refine tg (i:=2) (v:=?a67) rfl ?b67 (by assumption) ?c67
    case b67 => (intro w hSw; obtain ⟨y0,y1,y2⟩:=hSw; go_simp; try with_reducible rfl)
    try simp only [Act.put,p1,p2,p3,p4,p5,p6]
    refine tg (i:=3) (v:=?a69) rfl ?b69 (by assumption) ?c69
    case b69 => (intro w hSw; obtain ⟨y0,y1,y2⟩:=hSw; go_simp; try with_reducible rfl)
    try simp only [Act.put,p1,p2,p3,p4,p5,p6]
    refine tg (i:=4) (v:=?a71) rfl ?b71 (by assumption) ?c71
    case b71 => (intro w hSw; obtain ⟨y0,y1,y2⟩:=hSw; go_simp; try with_reducible rfl)
    try simp only [Act.put,p1,p2,p3,p4,p5,p6]
    refine tg (i:=5) (v:=?a73) rfl ?b73 (by assumption) ?c73
    case b73 => (intro w hSw; obtain ⟨y0,y1,y2⟩:=hSw; go_simp; try with_reducible rfl)
    try simp only [Act.put,p1,p2,p3,p4,p5,p6]
    refine tg (i:=6) (v:=?a75) rfl ?b75 (by assumption) ?c75
    case b75 => (intro w hSw; obtain ⟨y0,y1,y2⟩:=hSw; go_simp; try with_reducible rfl)
    try simp only [Act.put,p1,p2,p3,p4,p5,p6]
    refine tg (i:=7) (v:=?a77) rfl ?b77 (by assumption) ?c77
    case b77 => (intro w hSw; obtain ⟨y0,y1,y2⟩:=hSw; go_simp; try with_reducible rfl)
    try simp only [Act.put,p1,p2,p3,p4,p5,p6]
    refine tg (i:=8) (v:=?a79) rfl ?b79 (by assumption) ?c79
    case b79 => (intro w hSw; obtain ⟨y0,y1,y2⟩:=hSw; go_simp; try with_reducible rfl)
    try simp only [Act.put,p1,p2,p3,p4,p5,p6]
    refine tg (i:=9) (v:=?a81) rfl ?b81 (by assumption) ?c81
    case b81 => (intro w hSw; obtain ⟨y0,y1,y2⟩:=hSw; go_simp; try with_reducible rfl)
    try simp only [Act.put,p1,p2,p3,p4,p5,p6]
    refine tg (i:=10) (v:=?a83) rfl ?b83 (by assumption) ?c83
    case b83 => (intro w hSw; obtain ⟨y0,y1,y2⟩:=hSw; go_simp; try with_reducible rfl)
    try simp only [Act.put,p1,p2,p3,p4,p5,p6]
    refine wpAnyH_done (by kernel_rfl) ?_ _
    clear hHeld
    clear x0 x1 cc0 cc1 cc2 cc3 cc4 cc5
    have HZ:=Lib.hid (H6.out.below ((Below.refl _ _).drew))
    clear H6
    generalize w6.drew = wz at HZ ⊢
    go_wp2_with fail
    exact bodyPost_ret (v:=.tuple #[.slice none 0 0,.int .i64 ((fa : Int)),.int .i64 (c2)]) (by simp [results,Tryz.results12,go_sem]) rfl (form_nil (HF2.out) (HB2.out.trans (HZ.out.bel.mono HB2.out.size)))
  | ok u ns n =>
   obtain ⟨hc2,ha2,hu,hns,-⟩ : c2 = 0 ∧ a2 = 0 ∧ u = ts.drop i2 ∧ ns2 = [] ++ ns ∧ _:=HAG.out
   rw [List.nil_append] at hns
   subst hc2 ha2 hns
   have HU:=keep hu
   have HPK:=keep (par_pk _ _ _ _ _ _ HRR.out)
   have hnl : ns2.length ≤ 256:=by have:=par_nodes _ _ _ _ _ _ HRR.out; omega
   have HGN:=keep (HPK.out.good trivial HGT.out)
   have HGU:=keep (fun t ht => HGT.out t (HPK.out.sub t ht) : ∀ t ∈ u,okT t = true)
   have hile : i2 ≤ ts.length:=Gd.le hbd4 rfl
   clear hu
   by_cases hi2 : (i2 : Int) < (ts.length : Int)
   ·have hune : u ≠ []:=by
     rw [HU.out]
     intro e9
     have:=List.drop_eq_nil_iff.1 e9
     omega
    have hk0 : hkS u ≠ 0:=(hk_pos HGU.out).2 hune
    obtain ⟨⟨tk,tn,tt,⟨t1,t2,t3,t4⟩,tat⟩,ht1⟩ : ∃ t,hdS s.size (ts.drop i2) = t:=⟨_,rfl⟩
    have HT1:=keep ht1
    have hfa:=fld_at
    clear ht1
    have HF2:=keep (show formS s.data.toList = ([],(tat : Int),4) by
     rw [HF.out]
     simp only [formR]
     rw [if_pos hk0,HU.out,HT1.out])
    clear hune hk0
    obtain ⟨la3,lc3,tv3,-,⟨x0,x1⟩,cc0,cc1,cc2,cc3,cc4,cc5⟩:=H5.out.cells
    go_upto_region 6 with fail
    refine wp_region_held_drew (S:=fun W => pb < W.heap.size ∧ W.cell? ⟨pb,1,none⟩ = some (.slice la3 ts.length lc3) ∧ W.cell? ⟨pb,2,none⟩ = some (.int .i64 (i2 : Int))) (by kernel_rfl) ⟨x0,cc1,cc2⟩ (fun hHeld => ?_)
    refine tg (i:=0) (v:=?a85) rfl ?b85 (by assumption) ?c85
    case b85 => (intro w hSw; obtain ⟨y0,y1,y2⟩:=hSw; go_simp; try with_reducible rfl)
    try simp only [Act.put,p1,p2,p3,p4,p6]
    refine tg (i:=1) (v:=?a87) rfl ?b87 (by assumption) ?c87
    case b87 => (intro w hSw; obtain ⟨y0,y1,y2⟩:=hSw; go_simp; try with_reducible rfl)
    try simp only [Act.put,p1,p2,p3,p4,p5,p6]
    refine tg (i:=2) (v:=?a89) rfl ?b89 (by assumption) ?c89
    case b89 => (intro w hSw; obtain ⟨y0,y1,y2⟩:=hSw; go_simp; try with_reducible rfl)
    try simp only [Act.put,p1,p2,p3,p4,p5,p6]
    refine tg (i:=3) (v:=?a91) rfl ?b91 (by assumption) ?c91
    case b91 => (intro w hSw; obtain ⟨y0,y1,y2⟩:=hSw; go_simp; try with_reducible rfl)
    try simp only [Act.put,p1,p2,p3,p4,p5,p6]
    refine tg (i:=4) (v:=?a93) rfl ?b93 (by assumption) ?c93
    case b93 => (intro w hSw; obtain ⟨y0,y1,y2⟩:=hSw; go_simp; try with_reducible rfl)
    try simp only [Act.put,p1,p2,p3,p4,p5,p6]
    refine tg (i:=5) (v:=?a95) rfl ?b95 (by assumption) ?c95
    case b95 => (intro w hSw; obtain ⟨y0,y1,y2⟩:=hSw; go_simp; try with_reducible rfl)
    try simp only [Act.put,p1,p2,p3,p4,p5,p6]
    refine tg (i:=6) (v:=?a97) rfl ?b97 (by assumption) ?c97
    case b97 => (intro w hSw; obtain ⟨y0,y1,y2⟩:=hSw; go_simp; try with_reducible rfl)
    try simp only [Act.put,p1,p2,p3,p4,p5,p6]
    refine tg (i:=7) (v:=?a99) rfl ?b99 (by assumption) ?c99
    case b99 => (intro w hSw; obtain ⟨y0,y1,y2⟩:=hSw; go_simp; try with_reducible rfl)
    try simp only [Act.put,p1,p2,p3,p4,p5,p6]
    refine tg (i:=8) (v:=?a101) rfl ?b101 (by assumption) ?c101
    case b101 => (intro w hSw; obtain ⟨y0,y1,y2⟩:=hSw; go_simp; try with_reducible rfl)
    try simp only [Act.put,p1,p2,p3,p4,p5,p6]
    refine tg (i:=9) (v:=?a103) rfl ?b103 (by assumption) ?c103
    case b103 => (intro w hSw; obtain ⟨y0,y1,y2⟩:=hSw; go_simp; try with_reducible rfl)
    try simp only [Act.put,p1,p2,p3,p4,p5,p6]
    refine wpAnyH_done (by kernel_rfl) ?_ _
    clear hHeld
    clear x0 x1 cc0 cc1 cc2 cc3 cc4 cc5
    have H6:=Lib.hid (H5.out.below ((Below.refl _ _).drew))
    clear H5
    generalize w5.drew = w6 at H6 ⊢
    go_wp2_with fail
    refine (r_next w2 [] pb s ts i2 ns2 (0) (0) _ (by omega) (by omega) HS.out H6.out).mono ?_
    rintro e w7 ⟨rfl,hbx⟩
    rw [HT1.out]
    have H7:=Lib.hid (H6.out.below hbx)
    clear hbx H6
    simp only [tkA]
    go_wp2_with fail
    refine (r_fault w2 [] pb s ts i2 ns2 (0) (0) _ _ _ H7.out).mono ?_
    rintro e w8 ⟨rfl,hst⟩
    have hst : RSt w2 [] pb s ts i2 ns2 (tat : Int) 4 w8:=hst
    have H8:=Lib.hid hst
    clear hst H7
    obtain ⟨la3,lc3,tv3,-,⟨x0,x1⟩,cc0,cc1,cc2,cc3,cc4,cc5⟩:=H8.out.cells
    go_upto_region 9 with fail
    refine wp_region_held_drew (S:=fun W => pb < W.heap.size ∧ W.cell? ⟨pb,4,none⟩ = some (.int .i64 ((tat : Int))) ∧ W.cell? ⟨pb,5,none⟩ = some (.int .i64 (4))) (by kernel_rfl) ⟨x0,cc4,cc5⟩ (fun hHeld => ?_)
    refine tg (i:=0) (v:=?a105) rfl ?b105 (by assumption) ?c105
    case b105 => (intro w hSw; obtain ⟨y0,y1,y2⟩:=hSw; go_simp; try with_reducible rfl)
    try simp only [Act.put,p1,p2,p3,p4,p6]
    refine tg (i:=1) (v:=?a107) rfl ?b107 (by assumption) ?c107
    case b107 => (intro w hSw; obtain ⟨y0,y1,y2⟩:=hSw; go_simp; try with_reducible rfl)
    try simp only [Act.put,p1,p2,p3,p4,p5,p6]
    refine tg (i:=2) (v:=?a109) rfl ?b109 (by assumption) ?c109
    case b109 => (intro w hSw; obtain ⟨y0,y1,y2⟩:=hSw; go_simp; try with_reducible rfl)
    try simp only [Act.put,p1,p2,p3,p4,p5,p6]
    refine tg (i:=3) (v:=?a111) rfl ?b111 (by assumption) ?c111
    case b111 => (intro w hSw; obtain ⟨y0,y1,y2⟩:=hSw; go_simp; try with_reducible rfl)
    try simp only [Act.put,p1,p2,p3,p4,p5,p6]
    refine tg (i:=4) (v:=?a113) rfl ?b113 (by assumption) ?c113
    case b113 => (intro w hSw; obtain ⟨y0,y1,y2⟩:=hSw; go_simp; try with_reducible rfl)
    try simp only [Act.put,p1,p2,p3,p4,p5,p6]
    refine tg (i:=5) (v:=?a115) rfl ?b115 (by assumption) ?c115
    case b115 => (intro w hSw; obtain ⟨y0,y1,y2⟩:=hSw; go_simp; try with_reducible rfl)
    try simp only [Act.put,p1,p2,p3,p4,p5,p6]
    refine tg (i:=6) (v:=?a117) rfl ?b117 (by assumption) ?c117
    case b117 => (intro w hSw; obtain ⟨y0,y1,y2⟩:=hSw; go_simp; try with_reducible rfl)
    try simp only [Act.put,p1,p2,p3,p4,p5,p6]
    refine tg (i:=7) (v:=?a119) rfl ?b119 (by assumption) ?c119
    case b119 => (intro w hSw; obtain ⟨y0,y1,y2⟩:=hSw; go_simp; try with_reducible rfl)
    try simp only [Act.put,p1,p2,p3,p4,p5,p6]
    refine tg (i:=8) (v:=?a121) rfl ?b121 (by assumption) ?c121
    case b121 => (intro w hSw; obtain ⟨y0,y1,y2⟩:=hSw; go_simp; try with_reducible rfl)
    try simp only [Act.put,p1,p2,p3,p4,p5,p6]
    refine tg (i:=9) (v:=?a123) rfl ?b123 (by assumption) ?c123
    case b123 => (intro w hSw; obtain ⟨y0,y1,y2⟩:=hSw; go_simp; try with_reducible rfl)
    try simp only [Act.put,p1,p2,p3,p4,p5,p6]
    refine tg (i:=10) (v:=?a125) rfl ?b125 (by assumption) ?c125
    case b125 => (intro w hSw; obtain ⟨y0,y1,y2⟩:=hSw; go_simp; try with_reducible rfl)
    try simp only [Act.put,p1,p2,p3,p4,p5,p6]
    refine wpAnyH_done (by kernel_rfl) ?_ _
    clear hHeld
    clear x0 x1 cc0 cc1 cc2 cc3 cc4 cc5
    have HZ:=Lib.hid (H8.out.below ((Below.refl _ _).drew))
    clear H8
    generalize w8.drew = wz at HZ ⊢
    go_wp2_with fail
    exact bodyPost_ret (v:=.tuple #[.slice none 0 0,.int .i64 ((tat : Int)),.int .i64 (4)]) (by simp [results,Tryz.results12,go_sem]) rfl (form_nil (HF2.out) (HB2.out.trans (HZ.out.bel.mono HB2.out.size)))
   ·have hu0 : u = []:=by
     rw [HU.out]
     exact List.drop_eq_nil_of_le (by omega)
    have HU0:=keep hu0
    clear hu0
    obtain ⟨la3,lc3,tv3,-,⟨x0,x1⟩,cc0,cc1,cc2,cc3,cc4,cc5⟩:=H5.out.cells
    go_upto_region 6 with fail
    refine wp_region_held_drew (S:=fun W => pb < W.heap.size ∧ W.cell? ⟨pb,1,none⟩ = some (.slice la3 ts.length lc3) ∧ W.cell? ⟨pb,2,none⟩ = some (.int .i64 (i2 : Int))) (by kernel_rfl) ⟨x0,cc1,cc2⟩ (fun hHeld => ?_)
    refine tg (i:=0) (v:=?a127) rfl ?b127 (by assumption) ?c127
    case b127 => (intro w hSw; obtain ⟨y0,y1,y2⟩:=hSw; go_simp; try with_reducible rfl)
    try simp only [Act.put,p1,p2,p3,p4,p6]
    refine tg (i:=1) (v:=?a129) rfl ?b129 (by assumption) ?c129
    case b129 => (intro w hSw; obtain ⟨y0,y1,y2⟩:=hSw; go_simp; try with_reducible rfl)
    try simp only [Act.put,p1,p2,p3,p4,p5,p6]
    refine tg (i:=2) (v:=?a131) rfl ?b131 (by assumption) ?c131
    case b131 => (intro w hSw; obtain ⟨y0,y1,y2⟩:=hSw; go_simp; try with_reducible rfl)
    try simp only [Act.put,p1,p2,p3,p4,p5,p6]
    refine tg (i:=3) (v:=?a133) rfl ?b133 (by assumption) ?c133
    case b133 => (intro w hSw; obtain ⟨y0,y1,y2⟩:=hSw; go_simp; try with_reducible rfl)
    try simp only [Act.put,p1,p2,p3,p4,p5,p6]
    refine tg (i:=4) (v:=?a135) rfl ?b135 (by assumption) ?c135
    case b135 => (intro w hSw; obtain ⟨y0,y1,y2⟩:=hSw; go_simp; try with_reducible rfl)
    try simp only [Act.put,p1,p2,p3,p4,p5,p6]
    refine tg (i:=5) (v:=?a137) rfl ?b137 (by assumption) ?c137
    case b137 => (intro w hSw; obtain ⟨y0,y1,y2⟩:=hSw; go_simp; try with_reducible rfl)
    try simp only [Act.put,p1,p2,p3,p4,p5,p6]
    refine tg (i:=6) (v:=?a139) rfl ?b139 (by assumption) ?c139
    case b139 => (intro w hSw; obtain ⟨y0,y1,y2⟩:=hSw; go_simp; try with_reducible rfl)
    try simp only [Act.put,p1,p2,p3,p4,p5,p6]
    refine tg (i:=7) (v:=?a141) rfl ?b141 (by assumption) ?c141
    case b141 => (intro w hSw; obtain ⟨y0,y1,y2⟩:=hSw; go_simp; try with_reducible rfl)
    try simp only [Act.put,p1,p2,p3,p4,p5,p6]
    refine tg (i:=8) (v:=?a143) rfl ?b143 (by assumption) ?c143
    case b143 => (intro w hSw; obtain ⟨y0,y1,y2⟩:=hSw; go_simp; try with_reducible rfl)
    try simp only [Act.put,p1,p2,p3,p4,p5,p6]
    refine tg (i:=9) (v:=?a145) rfl ?b145 (by assumption) ?c145
    case b145 => (intro w hSw; obtain ⟨y0,y1,y2⟩:=hSw; go_simp; try with_reducible rfl)
    try simp only [Act.put,p1,p2,p3,p4,p5,p6]
    refine wpAnyH_done (by kernel_rfl) ?_ _
    clear hHeld
    clear x0 x1 cc0 cc1 cc2 cc3 cc4 cc5
    have H6:=Lib.hid (H5.out.below ((Below.refl _ _).drew))
    clear H5
    generalize w5.drew = w6 at H6 ⊢
    obtain ⟨h1,h2,la4,lc4,tv4,-,hO⟩:=H6.out
    obtain ⟨na,nc,rfl,-,-,hrows⟩:=rows_own ndRow (fun _ => rfl) hO.own rfl
    have HRW:=keep hrows
    have HO:=Lib.hid hO
    clear hO hrows H6 h1 h2
    have F6:=HO.out.ok.sees
    simp only [sees,kVar,cellsAt,Nat.reduceAdd] at F6
    obtain ⟨⟨⟨x0,x1⟩,cc0,cc1,cc2,cc3,cc4,cc5,-⟩,-⟩:=F6
    go_wp2_with fail
    refine (ref8_Depth ns2 na nc _ HRW.out (by omega) HGN.out).mono ?_
    rintro e w8 ⟨d8,rfl,hb8⟩
    obtain ⟨E,hE⟩ : ∃ E,checkS ns2 = E:=⟨_,rfl⟩
    rw [hE]
    have HEE:=keep hE
    have HO8:=Lib.hid (HO.out.below hb8)
    clear hE hb8 HO x0 x1 cc0 cc1 cc2 cc3 cc4 cc5
    have F6:=HO8.out.ok.sees
    simp only [sees,kVar,cellsAt,Nat.reduceAdd] at F6
    obtain ⟨⟨⟨x0,x1⟩,cc0,cc1,cc2,cc3,cc4,cc5,-⟩,-⟩:=F6
    by_cases hE0 : E = 0
    ·subst hE0
     have HF2:=keep (show formS s.data.toList = (ns2,0,0) by
      rw [HF.out]
      simp only [formR]
      rw [HU0.out,if_neg (by simp [hkS]),HEE.out,if_neg (by decide)])
     go_wp2_with fail
     refine bodyPost_ret (v:=.tuple #[.slice na ns2.length nc,.int .i64 0,.int .i64 0]) (by simp [results,Tryz.results12,go_sem]) rfl ?_
     have hre:=HO8.out.rebase HB2.out
     exact ⟨_,by rw [HF2.out],by rw [HF2.out]; exact hre.own,hre.ok.bel⟩
    ·have hEb : (E != 0) = true:=by simpa using hE0
     have HF2:=keep (show formS s.data.toList = ([],0,E) by
      rw [HF.out]
      simp only [formR]
      rw [HU0.out,if_neg (by simp [hkS]),if_pos (by rw [HEE.out]; exact hE0),HEE.out])
     clear hE0
     go_wp2_with fail
     exact bodyPost_ret (v:=.tuple #[.slice none 0 0,.int .i64 0,.int .i64 E]) (by simp [results,Tryz.results12,go_sem]) rfl (form_nil HF2.out (HO8.out.rebase HB2.out).ok.bel)
 ·have hteb : (te != 0) = true:=by simpa using hte
  have HF:=keep (form_lex HTT.out hte)
  obtain ⟨la,c,rfl,-⟩:=toks_at hown
  clear hte hown hb
  go_wp2_with fail
  exact bodyPost_ret (v:=.tuple #[.slice none 0 0,.int .i64 ta,.int .i64 te]) (by simp [results,Tryz.results12,go_sem]) rfl (form_nil HF.out HB2.out)
end Go.Proofs.YtlngjiibbcgkmaaGreatDoor
