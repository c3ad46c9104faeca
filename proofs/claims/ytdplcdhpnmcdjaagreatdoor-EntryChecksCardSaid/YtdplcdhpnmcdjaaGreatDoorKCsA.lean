/- The contract of the reference's Formula. EntryParts: the walk. Entries that were handed in; EntryParts. The reference: what an input means, by its error (louvreref11.Of). -/
import Derived.Test.YtdplcdhpnmcdjaaGreatDoorKTwd
import Derived.Test.YtdplcdhpnmcdjaaGreatDoorKTg
import Derived.Test.YtdplcdhpnmcdjaaGreatDoorKRqL
import Derived.Test.YtdplcdhpnmcdjaaGreatDoorKR8E
import Derived.Test.YtdplcdhpnmcdjaaGreatDoorKForB
import Derived.Test.YtdplcdhpnmcdjaaGreatDoorKGiv
import Derived.Test.YtdplcdhpnmcdjaaGreatDoorKParP
import Derived.Test.YtdplcdhpnmcdjaaGreatDoorKEng
namespace Go.Proofs.YtdplcdhpnmcdjaaGreatDoor
set_option maxRecDepth 100000
set_option maxHeartbeats 8000000
open Go.RowKit Go.Proofs.Tryz
theorem Bq (s:ByteArray) (w:World) (hs:s.size≤4611686018427387904) :
  Calls prog 136 #[.string s] w (kY s.data.toList w):=by
 have HS:=keep hs
 obtain ⟨T,hT⟩:=ex (aM s.data.toList)
 have HTT:=keep hT
 go_enter func136,ntmps136
 go_wp2_with fail
 refine (BP s w hs).mono ?_
 rintro e w2 ⟨tv,rfl,hown,hb⟩
 rw [hT] at hown ⊢
 clear hT
 obtain ⟨ts,ta,te⟩:=T
 simp only [] at hown ⊢
 have HB2:=Lib.hid hb
 by_cases hte:te=0
 ·subst hte
  obtain ⟨hta0,h256,hpl,hlex⟩:=fZ HTT.out
  subst hta0
  have HGT:=keep (fJ HTT.out)
  have hls:s.data.toList.length=s.size:=Array.length_toList
  have hts:ts.length≤256:=Nat.le_trans hlex.len h256
  obtain ⟨r,hr,hform⟩:=oX HTT.out
  rw [hls] at hform
  unfold rS at hr
  rw [hls] at hr
  have HF:=keep hform
  have HRR:=keep hr
  obtain ⟨la,c,rfl,HTK⟩:=vq hown
  obtain ⟨pb,hpb⟩:=ex (w2.heap.size)
  have HST:=Lib.hid (show RSt w2 [] pb s ts 0 [] 0 0 (w2.alloc (.cells #[.string s,.slice la ts.length c,.int .i64 0,.slice none 0 0,.int .i64 0,.int .i64 0] 205)) from
   ⟨by omega,by simp,la,c,.slice none 0 0,HTK,by subst hpb; exact an.start ((Ok.start w2).var w2.heap.size 205 [.string s,.slice la ts.length c,.int .i64 0,.slice none 0 0,.int .i64 0,.int .i64 0] rfl) _ _⟩)
  have hag:=EC (e:=s.size) (all:=ts) (m:=12 * ts.length+bM (.lv 1)) (by simp only [bM]; omega) hr
  have hbd:=zF (e:=s.size) (all:=ts) (f:=12 * ts.length+bM (.lv 1)) (m:=.lv 1) (q:=⟨0,[],0,0,0⟩) (by omega) (Nat.zero_le _) (by simp [Mr.sl])
  have hrc:=fun W (h9:RSt w2 [] pb s ts 0 [] 0 0 W)=>EA _ _ (Nat.le_refl _) w2 [] pb s ts ⟨0,[],0,0,0⟩ (.lv 1) W (by omega) hs (Nat.zero_le _) (by simp [Mr.sl]) (show 12 * (ts.length - 0)+e6 (.lv 1)≤12 * ts.length+bM (.lv 1) by simp only [e6,bM]; omega) h9 (by omega) (by omega)
  obtain ⟨⟨i2,ns2,a2,c2,n2⟩,hX⟩:∃ q,rf s.size ts (12 * ts.length+bM (.lv 1)) (.lv 1) ⟨0,[],0,0,0⟩=q:=⟨_,rfl⟩
  rw [hX] at hag hbd hrc
  simp only [Mr.sl] at hbd
  obtain ⟨-,hbd2,hbd3,hbd4⟩:=hbd
  have HC:=keep hrc
  have HAG:=keep hag
  clear hrc hX hag hr hform hlex hpl h256 hls HTK hown hb
  go_wp2_with fail
  generalize (w2.alloc (.cells #[.string s,.slice la ts.length c,.int .i64 0,.slice none 0 0,.int .i64 0,.int .i64 0] 205))=w4 at HST ⊢
  refine (HC.out _ HST.out).mono ?_
  rintro e w5 ⟨rfl,hst⟩
  have hst:RSt w2 [] pb s ts i2 ns2 a2 c2 w5:=hst
  have H5:=Lib.hid hst
  clear hst HC HST hpb
  cases r with
  | bad fa fc =>
   obtain ⟨ha2,hc2,hc0⟩:a2=(fa:Int)∧c2=fc∧fc≠0:=HAG.out
   subst ha2 hc2
   have hcb:((c2:Int) != 0)=true:=by simpa using hc0
   have HC0:=keep hc0
   have HF2:=keep (show bo s.data.toList=([],(fa:Int),c2) from HF.out)
   clear hc0
   by_cases hi2:(i2:Int)<(ts.length:Int)
   ·obtain ⟨⟨tk,tn,tt,⟨t1,t2,t3,t4⟩,tat⟩,ht1⟩:∃ t,hdS s.size (ts.drop i2)=t:=⟨_,rfl⟩
    have HT1:=keep ht1
    have hfa:=Cd
    clear ht1
    obtain ⟨la3,lc3,tv3,-,⟨x0,x1⟩,p0,p1,p2,p3,p4,p5⟩:=H5.out.cells
    go_upto_region 6 with fail
    refine wp_region_held_drew (S:=fun W=>pb<W.heap.size∧W.cell? ⟨pb,1,none⟩=some (.slice la3 ts.length lc3)∧W.cell? ⟨pb,2,none⟩=some (.int .i64 (i2:Int))) (by kernel_rfl) ⟨x0,p1,p2⟩ (fun hHeld => ?_)
    refine wta 0 ?_
    refine wta 1 ?_
    refine wta 2 ?_
    refine wta 3 ?_
    refine wta 4 ?_
    refine wta 5 ?_
    refine wta 6 ?_
    refine wta 7 ?_
    refine wta 8 ?_
    refine wta 9 ?_
    refine wpAnyH_done (by kernel_rfl) ?_ _
    clear hHeld
    clear x0 x1 p0 p1 p2 p3 p4 p5
    have H6:=Lib.hid (H5.out.below ((Below.refl _ _).drew))
    clear H5
    generalize w5.drew=w6 at H6 ⊢
    go_wp2_with fail
    refine cMg (zu w2 [] pb s ts i2 ns2 ((fa:Int)) (c2) _ (by omega) (by omega) HS.out H6.out) (fun _=>H6.out.below) fun w7 H7=>?_
    rw [HT1.out]
    clear H6
    simp only [tkA]
    go_wp2_with fail
    refine (zC w2 [] pb s ts i2 ns2 ((fa:Int)) (c2) _ _ _ H7.out).mono ?_
    rintro e w8 ⟨rfl,hst⟩
    have hst:RSt w2 [] pb s ts i2 ns2 (fa:Int) c2 w8:=by
     have h9:RSt w2 [] pb s ts i2 ns2 (zw c2 _ (fa:Int)) (zw c2 4 c2) w8:=hst
     rw [show ∀ x y:Int,zw c2 x y=y from fun x y=>if_neg HC0.out,show ∀ x y:Int,zw c2 x y=y from fun x y=>if_neg HC0.out] at h9
     exact h9
    have H8:=Lib.hid hst
    clear hst H7
    obtain ⟨la3,lc3,tv3,-,⟨x0,x1⟩,p0,p1,p2,p3,p4,p5⟩:=H8.out.cells
    go_upto_region 9 with fail
    refine wp_region_held_drew (S:=fun W=>pb<W.heap.size∧W.cell? ⟨pb,4,none⟩=some (.int .i64 ((fa:Int)))∧W.cell? ⟨pb,5,none⟩=some (.int .i64 (c2))) (by kernel_rfl) ⟨x0,p4,p5⟩ (fun hHeld => ?_)
    refine wta 0 ?_
    refine wta 1 ?_
    refine wta 2 ?_
    refine wta 3 ?_
    refine wta 4 ?_
    refine wta 5 ?_
    refine wta 6 ?_
    refine wta 7 ?_
    refine wta 8 ?_
    refine wta 9 ?_
    refine wta 10 ?_
    refine wpAnyH_done (by kernel_rfl) ?_ _
    clear hHeld
    clear x0 x1 p0 p1 p2 p3 p4 p5
    have HZ:=Lib.hid (H8.out.below ((Below.refl _ _).drew))
    clear H8
    generalize w8.drew=wz at HZ ⊢
    go_wp2_with fail
    exact bodyPost_ret (v:=.tuple #[.slice none 0 0,.int .i64 ((fa:Int)),.int .i64 (c2)]) (by simp [results,results136,go_sem]) rfl (form_nil (HF2.out) (HB2.out.trans (HZ.out.bel.mono HB2.out.size)))
   obtain ⟨la3,lc3,tv3,-,⟨x0,x1⟩,p0,p1,p2,p3,p4,p5⟩:=H5.out.cells
   go_upto_region 6 with fail
   refine wp_region_held_drew (S:=fun W=>pb<W.heap.size∧W.cell? ⟨pb,1,none⟩=some (.slice la3 ts.length lc3)∧W.cell? ⟨pb,2,none⟩=some (.int .i64 (i2:Int))) (by kernel_rfl) ⟨x0,p1,p2⟩ (fun hHeld => ?_)
   refine wta 0 ?_
   refine wta 1 ?_
   refine wta 2 ?_
   refine wta 3 ?_
   refine wta 4 ?_
   refine wta 5 ?_
   refine wta 6 ?_
   refine wta 7 ?_
   refine wta 8 ?_
   refine wta 9 ?_
   refine wpAnyH_done (by kernel_rfl) ?_ _
   clear hHeld
   clear x0 x1 p0 p1 p2 p3 p4 p5
   have H6:=Lib.hid (H5.out.below ((Below.refl _ _).drew))
   clear H5
   generalize w5.drew=w6 at H6 ⊢
   obtain ⟨la3,lc3,tv3,-,⟨x0,x1⟩,p0,p1,p2,p3,p4,p5⟩:=H6.out.cells
   go_upto_region 9 with fail
   refine wp_region_held_drew (S:=fun W=>pb<W.heap.size∧W.cell? ⟨pb,4,none⟩=some (.int .i64 ((fa:Int)))∧W.cell? ⟨pb,5,none⟩=some (.int .i64 (c2))) (by kernel_rfl) ⟨x0,p4,p5⟩ (fun hHeld => ?_)
   refine wta 0 ?_
   refine wta 1 ?_
   refine wta 2 ?_
   refine wta 3 ?_
   refine wta 4 ?_
   refine wta 5 ?_
   refine wta 6 ?_
   refine wta 7 ?_
   refine wta 8 ?_
   refine wta 9 ?_
   refine wta 10 ?_
   refine wpAnyH_done (by kernel_rfl) ?_ _
   clear hHeld
   clear x0 x1 p0 p1 p2 p3 p4 p5
   have HZ:=Lib.hid (H6.out.below ((Below.refl _ _).drew))
   clear H6
   generalize w6.drew=wz at HZ ⊢
   go_wp2_with fail
   exact bodyPost_ret (v:=.tuple #[.slice none 0 0,.int .i64 ((fa:Int)),.int .i64 (c2)]) (by simp [results,results136,go_sem]) rfl (form_nil (HF2.out) (HB2.out.trans (HZ.out.bel.mono HB2.out.size)))
  | ok u ns n =>
   obtain ⟨hc2,ha2,hu,hns,-⟩:c2=0∧a2=0∧u=ts.drop i2∧ns2=[]++ns∧_:=HAG.out
   rw [List.nil_append] at hns
   subst hc2 ha2 hns
   have HU:=keep hu
   have HPK:=keep (bZ _ _ _ _ _ _ HRR.out)
   have hnl:ns2.length≤256:=by have:=aE _ _ _ _ _ _ HRR.out; omega
   have HGN:=keep (HPK.out.good trivial HGT.out)
   have HGU:=keep (fun t ht=>HGT.out t (HPK.out.sub t ht):∀ t∈u,okT t=true)
   have hile:i2≤ts.length:=Gd.le hbd4 rfl
   clear hu
   by_cases hi2:(i2:Int)<(ts.length:Int)
   ·have hune:u≠[]:=by
     rw [HU.out]
     intro e9
     have:=List.drop_eq_nil_iff.1 e9
     omega
    have hk0:hkS u≠0:=(rA HGU.out).2 hune
    obtain ⟨⟨tk,tn,tt,⟨t1,t2,t3,t4⟩,tat⟩,ht1⟩:∃ t,hdS s.size (ts.drop i2)=t:=⟨_,rfl⟩
    have HT1:=keep ht1
    have hfa:=Cd
    clear ht1
    have HF2:=keep (show bo s.data.toList=([],(tat:Int),4) by
     rw [HF.out]
     simp only [kB]
     rw [if_pos hk0,HU.out,HT1.out])
    clear hune hk0
    obtain ⟨la3,lc3,tv3,-,⟨x0,x1⟩,p0,p1,p2,p3,p4,p5⟩:=H5.out.cells
    go_upto_region 6 with fail
    refine wp_region_held_drew (S:=fun W=>pb<W.heap.size∧W.cell? ⟨pb,1,none⟩=some (.slice la3 ts.length lc3)∧W.cell? ⟨pb,2,none⟩=some (.int .i64 (i2:Int))) (by kernel_rfl) ⟨x0,p1,p2⟩ (fun hHeld => ?_)
    refine wta 0 ?_
    refine wta 1 ?_
    refine wta 2 ?_
    refine wta 3 ?_
    refine wta 4 ?_
    refine wta 5 ?_
    refine wta 6 ?_
    refine wta 7 ?_
    refine wta 8 ?_
    refine wta 9 ?_
    refine wpAnyH_done (by kernel_rfl) ?_ _
    clear hHeld
    clear x0 x1 p0 p1 p2 p3 p4 p5
    have H6:=Lib.hid (H5.out.below ((Below.refl _ _).drew))
    clear H5
    generalize w5.drew=w6 at H6 ⊢
    go_wp2_with fail
    refine cMg (zu w2 [] pb s ts i2 ns2 (0) (0) _ (by omega) (by omega) HS.out H6.out) (fun _=>H6.out.below) fun w7 H7=>?_
    rw [HT1.out]
    clear H6
    simp only [tkA]
    go_wp2_with fail
    refine (zC w2 [] pb s ts i2 ns2 (0) (0) _ _ _ H7.out).mono ?_
    rintro e w8 ⟨rfl,hst⟩
    have hst:RSt w2 [] pb s ts i2 ns2 (tat:Int) 4 w8:=hst
    have H8:=Lib.hid hst
    clear hst H7
    obtain ⟨la3,lc3,tv3,-,⟨x0,x1⟩,p0,p1,p2,p3,p4,p5⟩:=H8.out.cells
    go_upto_region 9 with fail
    refine wp_region_held_drew (S:=fun W=>pb<W.heap.size∧W.cell? ⟨pb,4,none⟩=some (.int .i64 ((tat:Int)))∧W.cell? ⟨pb,5,none⟩=some (.int .i64 (4))) (by kernel_rfl) ⟨x0,p4,p5⟩ (fun hHeld => ?_)
    refine wta 0 ?_
    refine wta 1 ?_
    refine wta 2 ?_
    refine wta 3 ?_
    refine wta 4 ?_
    refine wta 5 ?_
    refine wta 6 ?_
    refine wta 7 ?_
    refine wta 8 ?_
    refine wta 9 ?_
    refine wta 10 ?_
    refine wpAnyH_done (by kernel_rfl) ?_ _
    clear hHeld
    clear x0 x1 p0 p1 p2 p3 p4 p5
    have HZ:=Lib.hid (H8.out.below ((Below.refl _ _).drew))
    clear H8
    generalize w8.drew=wz at HZ ⊢
    go_wp2_with fail
    exact bodyPost_ret (v:=.tuple #[.slice none 0 0,.int .i64 ((tat:Int)),.int .i64 (4)]) (by simp [results,results136,go_sem]) rfl (form_nil (HF2.out) (HB2.out.trans (HZ.out.bel.mono HB2.out.size)))
   have hu0:u=[]:=by
    rw [HU.out]
    exact List.drop_eq_nil_of_le (by omega)
   have HU0:=keep hu0
   clear hu0
   obtain ⟨la3,lc3,tv3,-,⟨x0,x1⟩,p0,p1,p2,p3,p4,p5⟩:=H5.out.cells
   go_upto_region 6 with fail
   refine wp_region_held_drew (S:=fun W=>pb<W.heap.size∧W.cell? ⟨pb,1,none⟩=some (.slice la3 ts.length lc3)∧W.cell? ⟨pb,2,none⟩=some (.int .i64 (i2:Int))) (by kernel_rfl) ⟨x0,p1,p2⟩ (fun hHeld => ?_)
   refine wta 0 ?_
   refine wta 1 ?_
   refine wta 2 ?_
   refine wta 3 ?_
   refine wta 4 ?_
   refine wta 5 ?_
   refine wta 6 ?_
   refine wta 7 ?_
   refine wta 8 ?_
   refine wta 9 ?_
   refine wpAnyH_done (by kernel_rfl) ?_ _
   clear hHeld
   clear x0 x1 p0 p1 p2 p3 p4 p5
   have H6:=Lib.hid (H5.out.below ((Below.refl _ _).drew))
   clear H5
   generalize w5.drew=w6 at H6 ⊢
   obtain ⟨h1,h2,la4,lc4,tv4,-,hO⟩:=H6.out
   obtain ⟨na,nc,rfl,-,-,hrows⟩:=jV du (fun _=>rfl) hO.own rfl
   have HRW:=keep hrows
   have HO:=Lib.hid hO
   clear hO hrows H6 h1 h2
   have F6:=HO.out.ok.sees
   simp only [sees,af,aa,Nat.reduceAdd] at F6
   obtain ⟨⟨⟨x0,x1⟩,p0,p1,p2,p3,p4,p5,-⟩,-⟩:=F6
   go_wp2_with fail
   refine (Cm ns2 na nc _ HRW.out (by omega) HGN.out).mono ?_
   rintro e w8 ⟨d8,rfl,hb8⟩
   obtain ⟨E,hE⟩:=ex (dp ns2)
   rw [hE]
   have HEE:=keep hE
   have HO8:=Lib.hid (HO.out.below hb8)
   clear hE hb8 HO x0 x1 p0 p1 p2 p3 p4 p5
   have F6:=HO8.out.ok.sees
   simp only [sees,af,aa,Nat.reduceAdd] at F6
   obtain ⟨⟨⟨x0,x1⟩,p0,p1,p2,p3,p4,p5,-⟩,-⟩:=F6
   by_cases hE0:E=0
   ·subst hE0
    have HF2:=keep (show bo s.data.toList=(ns2,0,0) by
     rw [HF.out]
     simp only [kB]
     rw [HU0.out,if_neg (by simp [hkS]),HEE.out,if_neg (by decide)])
    go_wp2_with fail
    refine bodyPost_ret (v:=.tuple #[.slice na ns2.length nc,.int .i64 0,.int .i64 0]) (by simp [results,results136,go_sem]) rfl ?_
    have hre:=HO8.out.rebase HB2.out
    exact ⟨_,by rw [HF2.out],by rw [HF2.out]; exact hre.own,hre.ok.bel⟩
   have hEb:(E != 0)=true:=by simpa using hE0
   have HF2:=keep (show bo s.data.toList=([],0,E) by
    rw [HF.out]
    simp only [kB]
    rw [HU0.out,if_neg (by simp [hkS]),if_pos (by rw [HEE.out]; exact hE0),HEE.out])
   clear hE0
   go_wp2_with fail
   exact bodyPost_ret (v:=.tuple #[.slice none 0 0,.int .i64 0,.int .i64 E]) (by simp [results,results136,go_sem]) rfl (form_nil HF2.out (HO8.out.rebase HB2.out).ok.bel)
 have hteb:(te != 0)=true:=by simpa using hte
 have HF:=keep (mg HTT.out hte)
 obtain ⟨la,c,rfl,-⟩:=vq hown
 clear hte hown hb
 go_wp2_with fail
 exact bodyPost_ret (v:=.tuple #[.slice none 0 0,.int .i64 ta,.int .i64 te]) (by simp [results,results136,go_sem]) rfl (form_nil HF.out HB2.out)
open Go.RowKit
set_option maxRecDepth 100000
theorem Cv:Flat prog 3 [.int .i64]:=.int (by kernel_rfl)
theorem DX:Flat prog 9 [.str]:=.str (by kernel_rfl)
theorem Di:Flat prog 46 [.int .i64,.int .i64] :=
 ma [[.int .i64],[.int .i64]] underlying46 ⟨⟨Cv,by kernel_rfl⟩,⟨Cv,by kernel_rfl⟩,trivial⟩ ⟨rfl,rfl,trivial⟩ (by kernel_rfl)
def DW:List Lf:=[.int .i64,.int .i64,.str]
theorem Er:Flat prog 48 DW :=
 ma [[.int .i64,.int .i64],[.str]] underlying48 ⟨⟨Di,by kernel_rfl⟩,⟨DX,by kernel_rfl⟩,trivial⟩ ⟨rfl,rfl,trivial⟩ (by kernel_rfl)
theorem EJ {cs:List Value} (h:cs.length=3):∃ v0 v1 v2,cs=[v0,v1,v2]:=by
 match cs,h with
 | [v0,v1,v2],_=>exact ⟨_,_,_,rfl⟩
theorem Ei {r:List Value} (h:OkL DW r):∃ a:En3,r5 a=r:=by
 obtain ⟨v0,v1,v2,rfl⟩:=EJ (show r.length=3 from h.len)
 obtain ⟨⟨n0,e0,-⟩,⟨n1,e1,-⟩,⟨s,e2,-⟩,-⟩:=h
 subst e0 e1 e2
 exact ⟨⟨n0,n1,s.data.toList⟩,rfl⟩
theorem B9 {H:Type} {enc:TypeId×Value→H} {w:World} {base:Nat} {spare:Nat→Bool} {held:Bool} {fuel:Nat} {A:Option Addr} {n c:Nat} {x:DataW H×List MemPlace}
  (h:DataW.trod enc prog w base spare held fuel 44 (Value.slice A n c).cells.toList=some x):∃ t:List En3,t.length=n∧bi w A 3 (t.map r5)∧n≤c:=by
 obtain ⟨rows,hl,hr,hok,h1,-⟩:=Co (e:=48) (ls:=DW) (by kernel_rfl) Er (by kernel_rfl) (by decide) h
 have key:∀ l:List (List Value),(∀ r∈l,OkL DW r)→∃ t:List En3,t.map r5=l:=by
  intro l
  induction l with
  | nil=>intro _; exact ⟨[],rfl⟩
  | cons r l ih =>
   intro hl
   obtain ⟨a,ha⟩:=Ei (hl r (by simp))
   obtain ⟨t,ht⟩:=ih fun r hr=>hl r (by simp [hr])
   exact ⟨a::t,by rw [List.map_cons,ha,ht]⟩
 obtain ⟨t,ht⟩:=key rows hok
 refine ⟨t,by rw [← hl,← ht,List.length_map],by rw [ht]; exact hr,h1⟩
set_option maxRecDepth 100000
set_option maxHeartbeats 8000000
def Cs (l:List UInt8) (w:World) (e:Ending) (w':World):Prop :=
 ∃ (f:Bool) (k:Nat) (n a:Int) (t:ByteArray) (ta:Option Addr) (tn tc:Nat),e=.returned (.tuple #[.agg #[.bool f,.int .u8 (k:Nat),.int .i64 n,.string t,.slice ta tn tc],.int .i64 a,.int .i64 (aV l).2.2])∧Below w.heap.size w w'
theorem Dx (s:ByteArray) (hs:s.size≤4611686018427387904) (w:World) :
  Calls prog 85 #[.string s] w (Cs s.data.toList w):=by
 obtain ⟨P,hP⟩:∃ P:Ending→World→Prop,Cs s.data.toList w=P:=⟨_,rfl⟩
 rw [hP]
 have HPP:=keep hP
 clear hP
 have hl:s.data.toList.length=s.size:=Array.length_toList
 have HL:=keep hl
 clear hl
 by_cases hlong:(s.size:Int)>256
 ·have HM:=keep (kH (l:=s.data.toList) (by rw [HL.out]; omega))
  have H0:=Lib.hid (Ok.start w)
  go_enter func85,ntmps85
  go_upto_region 1 with fail
  have H1:=Lib.hid (H0.out.var w.heap.size 65 [.bool false,.int .u8 0,.int .i64 0,.string ⟨#[]⟩,.slice none 0 0] rfl)
  clear H0
  generalize (w.alloc (.cells #[.bool false,.int .u8 0,.int .i64 0,.string ⟨#[]⟩,.slice none 0 0] 65))=W2 at H1 ⊢
  have F3:=sE H1
  go_wp2_with fail
  have HE:=Lib.hid (((((H1.out.set_ (i:=0) (u:=.bool false) (Nat.le_refl _) (fun x hx=>absurd hx (by simp))).set_ (i:=1) (u:=.int .u8 0) (Nat.le_refl _) (fun x hx=>absurd hx (by simp))).set_ (i:=2) (u:=.int .i64 0) (Nat.le_refl _) (fun x hx=>absurd hx (by simp))).set_ (i:=3) (u:=.string ⟨#[]⟩) (Nat.le_refl _) (fun x hx=>absurd hx (by simp))).set_ (i:=4) (u:=.slice none 0 0) (Nat.le_refl _) (fun x hx=>absurd hx (by simp)))
  have F9:=HE.out.sees
  simp only [sees,af,aa,Nat.reduceAdd,List.set_cons_succ,List.set_cons_zero] at F9
  obtain ⟨⟨⟨y0,g0⟩,r0,r1,r2,r3,r4,-⟩,-⟩:=F9
  have hpp:=HPP.out
  subst hpp
  exact bodyPost_ret (v:=.tuple #[.agg #[.bool false,.int .u8 0,.int .i64 0,.string ⟨#[]⟩,.slice none 0 0],.int .i64 0,.int .i64 5]) (by simp [results,results85,go_sem,r0,r1,r2,r3,r4]) rfl ⟨false,0,0,0,⟨#[]⟩,none,0,0,(by rw [HM.out]; try rfl),HE.out.bel⟩
 have H256:=keep (show ¬ 256<s.data.toList.length by rw [HL.out]; omega)
 have hsz:s.size≤256:=by omega
 have H0:=Lib.hid (Ok.start w)
 go_enter func85,ntmps85
 go_upto_region 1 with fail
 have H1:=Lib.hid (H0.out.var w.heap.size 65 [.bool false,.int .u8 0,.int .i64 0,.string ⟨#[]⟩,.slice none 0 0] rfl)
 clear H0
 generalize (w.alloc (.cells #[.bool false,.int .u8 0,.int .i64 0,.string ⟨#[]⟩,.slice none 0 0] 65))=W2 at H1 ⊢
 have F3:=sE H1
 go_wp2_with fail
 clear F3
 go_loopw [5] (fun kv wr=>∃ k:Nat,k≤s.size∧kv=.int .i64 (k:Int)∧ao (∀ b∈s.data.toList.take k,aj b=true)∧Hid (Ok w [af (w.heap.size) 65 [.bool false,.int .u8 0,.int .i64 0,.string ⟨#[]⟩,.slice none 0 0]] wr)) (fun kv _=>s.size - (intOf kv).toNat)
 case atStart=>exact ⟨0,Nat.zero_le _,rfl,keep (by simp),H1⟩
 case round =>
  clear H1
  obtain ⟨k,hk,rfl,HJ,HQ⟩:=hrel
  obtain ⟨wq,rfl⟩:∃ wq:World,wq=wr:=⟨_,rfl⟩
  by_cases hlt:(k:Int)<(s.size:Int)
  ·have hks:k<s.size:=by omega
   have HN:=keep (show ∀ h : aj (s[k]'hks) = true,∀ b ∈ s.data.toList.take (k + 1),aj b = true from fun h b hb => by
    rw [List.take_succ_eq_append_getElem (by rw [HL.out]; exact hks)] at hb
    rcases List.mem_append.1 hb with hb | hb
    ·exact HJ.out b hb
    rw [List.mem_singleton.1 hb]; exact h)
   have HB:=keep (fun h : aj (s[k]'hks) = false => qd (k:=k) H256.out (by rw [HL.out]; exact hks) HJ.out h)
   have HPB:=keep (show aj (s[k]'hks) = decide (32 ≤ (s[k]'hks).toNat ∧ (s[k]'hks).toNat ≤ 126) from rfl)
   by_cases h1 : ((s[k]'hks).toNat : Int) < 32
   ·have HM:=keep (HB.out (by rw [HPB.out]; exact decide_eq_false (by omega)))
    clear HB HN HPB
    have F4:=sE HQ
    go_wp2_with fail
    try rw [Exit.noGoto_ret]
    have HE:=Lib.hid (((((HQ.out.set_ (i:=0) (u:=.bool false) (Nat.le_refl _) (fun x hx=>absurd hx (by simp))).set_ (i:=1) (u:=.int .u8 0) (Nat.le_refl _) (fun x hx=>absurd hx (by simp))).set_ (i:=2) (u:=.int .i64 0) (Nat.le_refl _) (fun x hx=>absurd hx (by simp))).set_ (i:=3) (u:=.string ⟨#[]⟩) (Nat.le_refl _) (fun x hx=>absurd hx (by simp))).set_ (i:=4) (u:=.slice none 0 0) (Nat.le_refl _) (fun x hx=>absurd hx (by simp)))
    have F9:=HE.out.sees
    simp only [sees,af,aa,Nat.reduceAdd,List.set_cons_succ,List.set_cons_zero] at F9
    obtain ⟨⟨⟨y0,g0⟩,r0,r1,r2,r3,r4,-⟩,-⟩:=F9
    have hpp:=HPP.out
    subst hpp
    exact bodyPost_ret (v:=.tuple #[.agg #[.bool false,.int .u8 0,.int .i64 0,.string ⟨#[]⟩,.slice none 0 0],.int .i64 (k:Int),.int .i64 4]) (by simp [results,results85,go_sem,r0,r1,r2,r3,r4]) rfl ⟨false,0,0,(k:Int),⟨#[]⟩,none,0,0,(by rw [HM.out]; try rfl),HE.out.bel⟩
   by_cases h2 : ((s[k]'hks).toNat : Int) > 126
   ·have HM:=keep (HB.out (by rw [HPB.out]; exact decide_eq_false (by omega)))
    clear HB HN HPB
    have F4:=sE HQ
    go_wp2_with fail
    try rw [Exit.noGoto_ret]
    have HE:=Lib.hid (((((HQ.out.set_ (i:=0) (u:=.bool false) (Nat.le_refl _) (fun x hx=>absurd hx (by simp))).set_ (i:=1) (u:=.int .u8 0) (Nat.le_refl _) (fun x hx=>absurd hx (by simp))).set_ (i:=2) (u:=.int .i64 0) (Nat.le_refl _) (fun x hx=>absurd hx (by simp))).set_ (i:=3) (u:=.string ⟨#[]⟩) (Nat.le_refl _) (fun x hx=>absurd hx (by simp))).set_ (i:=4) (u:=.slice none 0 0) (Nat.le_refl _) (fun x hx=>absurd hx (by simp)))
    have F9:=HE.out.sees
    simp only [sees,af,aa,Nat.reduceAdd,List.set_cons_succ,List.set_cons_zero] at F9
    obtain ⟨⟨⟨y0,g0⟩,r0,r1,r2,r3,r4,-⟩,-⟩:=F9
    have hpp:=HPP.out
    subst hpp
    exact bodyPost_ret (v:=.tuple #[.agg #[.bool false,.int .u8 0,.int .i64 0,.string ⟨#[]⟩,.slice none 0 0],.int .i64 (k:Int),.int .i64 4]) (by simp [results,results85,go_sem,r0,r1,r2,r3,r4]) rfl ⟨false,0,0,(k:Int),⟨#[]⟩,none,0,0,(by rw [HM.out]; try rfl),HE.out.bel⟩
   have HN2:=keep (HN.out (by rw [HPB.out]; exact decide_eq_true (by omega)))
   clear HB HN HPB
   have F4:=sE HQ
   go_wp2_with fail
   go_roundw
   case rel=>exact ⟨k+1,by omega,by go_num,HN2,HQ⟩
   case measure=>simp [intOf]; omega
  obtain rfl:k=s.size:=by omega
  have hall:s.data.toList.all aj=true:=by
   have h:=HJ.out
   rw [← HL.out,List.take_length] at h
   exact List.all_eq_true.2 h
  have HMC:=keep (fun h=>eN (l:=s.data.toList) H256.out hall h)
  have HMF:=keep (fun h1 h2=>fT (l:=s.data.toList) H256.out hall h1 h2)
  have HMX:=keep (fun h1 h2=>gy (l:=s.data.toList) H256.out hall h1 h2)
  have HCN:=keep (fun W=>jO s hs W)
  obtain ⟨ca,cn,ct,hcs⟩:∃ a n t,be s.data.toList=(a,n,t):=⟨_,_,_,rfl⟩
  rw [hcs] at HCN
  dsimp only at HCN
  obtain ⟨CT,hCT⟩:∃ C:ByteArray,⟨ct.toArray⟩=C:=⟨_,rfl⟩
  rw [hCT] at HCN
  clear hall hcs hCT
  by_cases he:s.data.toList=[]
  ·have hte:s.toList.isEmpty=true:=by rw [toL,he]; rfl
   have HM:=keep (HMC.out (by rw [he]; simp))
   clear he HMC HMF HMX
   have F4:=sE HQ
   go_wp2_with fail
   refine cM (HCN.out _) HQ fun w5 H7=>?_
   clear F4 HQ
   have F8:=sE H7
   go_wp2_with fail
   try rw [Exit.noGoto_ret]
   have HE:=Lib.hid (((((H7.out.set_ (i:=0) (u:=.bool false) (Nat.le_refl _) (fun x hx=>absurd hx (by simp))).set_ (i:=1) (u:=.int .u8 (ca:Nat)) (Nat.le_refl _) (fun x hx=>absurd hx (by simp))).set_ (i:=2) (u:=.int .i64 cn) (Nat.le_refl _) (fun x hx=>absurd hx (by simp))).set_ (i:=3) (u:=.string CT) (Nat.le_refl _) (fun x hx=>absurd hx (by simp))).set_ (i:=4) (u:=.slice none 0 0) (Nat.le_refl _) (fun x hx=>absurd hx (by simp)))
   have F9:=HE.out.sees
   simp only [sees,af,aa,Nat.reduceAdd,List.set_cons_succ,List.set_cons_zero] at F9
   obtain ⟨⟨⟨y0,g0⟩,r0,r1,r2,r3,r4,-⟩,-⟩:=F9
   have hpp:=HPP.out
   subst hpp
   exact bodyPost_ret (v:=.tuple #[.agg #[.bool false,.int .u8 (ca:Nat),.int .i64 cn,.string CT,.slice none 0 0],.int .i64 0,.int .i64 0]) (by simp [results,results85,go_sem,r0,r1,r2,r3,r4]) rfl ⟨false,ca,cn,0,CT,none,0,0,(by rw [HM.out]; try rfl),HE.out.bel⟩
  have hte:s.toList.isEmpty=false:=by
   rw [toL]
   cases h9:s.data.toList with
   | nil=>exact absurd h9 he
   | cons=>rfl
  have h0:0<s.size:=by
   have h9:=List.length_pos_iff.2 he
   rw [Array.length_toList] at h9
   exact h9
  have hh : s.data.toList.head? = some (s[0]'h0):=by
   rw [List.head?_eq_getElem?,List.getElem?_eq_getElem (by rw [Array.length_toList]; exact h0)]; rfl
  by_cases h61 : ((s[0]'h0).toNat : Int) = 61
  rotate_left
  ·have ht : (((s[0]'h0).toNat : Int) != 61) = true:=bne_iff_ne.2 h61
   have HM:=keep (HMC.out (by rw [hh]; intro e; rw [Option.some.inj e] at h61; exact h61 rfl))
   clear he hh h61 HMC HMF HMX
   have F4:=sE HQ
   go_wp2_with fail
   refine cM (HCN.out _) HQ fun w5 H7=>?_
   clear F4 HQ
   have F8:=sE H7
   go_wp2_with fail
   try rw [Exit.noGoto_ret]
   have HE:=Lib.hid (((((H7.out.set_ (i:=0) (u:=.bool false) (Nat.le_refl _) (fun x hx=>absurd hx (by simp))).set_ (i:=1) (u:=.int .u8 (ca:Nat)) (Nat.le_refl _) (fun x hx=>absurd hx (by simp))).set_ (i:=2) (u:=.int .i64 cn) (Nat.le_refl _) (fun x hx=>absurd hx (by simp))).set_ (i:=3) (u:=.string CT) (Nat.le_refl _) (fun x hx=>absurd hx (by simp))).set_ (i:=4) (u:=.slice none 0 0) (Nat.le_refl _) (fun x hx=>absurd hx (by simp)))
   have F9:=HE.out.sees
   simp only [sees,af,aa,Nat.reduceAdd,List.set_cons_succ,List.set_cons_zero] at F9
   obtain ⟨⟨⟨y0,g0⟩,r0,r1,r2,r3,r4,-⟩,-⟩:=F9
   have hpp:=HPP.out
   subst hpp
   exact bodyPost_ret (v:=.tuple #[.agg #[.bool false,.int .u8 (ca:Nat),.int .i64 cn,.string CT,.slice none 0 0],.int .i64 0,.int .i64 0]) (by simp [results,results85,go_sem,r0,r1,r2,r3,r4]) rfl ⟨false,ca,cn,0,CT,none,0,0,(by rw [HM.out]; try rfl),HE.out.bel⟩
  have ht : (((s[0]'h0).toNat : Int) != 61) = false:=by rw [h61]; rfl
  have hb : s[0]'h0 = 61:=UInt8.toNat_inj.1 (by show _ = 61; omega)
  obtain ⟨X,hX⟩:∃ X:ByteArray,s.extract 1 s.size=X:=⟨_,rfl⟩
  have hXl:X.data.toList=s.data.toList.tail:=by
   rw [← hX,Lib.extract_data,← List.drop_one]
   show (s.data.toList.drop 1).take (s.size - 1)=s.data.toList.drop 1
   rw [List.take_of_length_le (by rw [List.length_drop,Array.length_toList]; exact Nat.le_refl _)]
  have hXs:X.size≤256:=by rw [← hX,ByteArray.size_extract]; omega
  have HPF:=keep (fun W=>Bq X W (by omega))
  unfold kY at HPF
  rw [hXl] at HPF
  have hm1:=HMF.out (by rw [hh,hb])
  have hm2:=HMX.out (by rw [hh,hb])
  have hrng:0≤(bo s.data.toList.tail).2.1∧(bo s.data.toList.tail).2.1≤1000:=by
   rcases gu s.data.toList.tail with ⟨a,e,h,-,h1,h2⟩ | ⟨_,_,_,h,-⟩
   ·rw [h]
    have h3:=H256.out
    rw [List.length_tail] at h2
    exact ⟨h1,by show a≤1000; omega⟩
   rw [h]; exact ⟨Int.le_refl _,(by decide:(0:Int)≤1000)⟩
  obtain ⟨R,hR⟩:=ex (bo s.data.toList.tail)
  rw [hR] at HPF hm1 hm2 hrng
  obtain ⟨tr,ra,re⟩:=R
  dsimp only at HPF hm1 hm2 hrng
  have HM1:=keep hm1
  have HM2:=keep hm2
  have hsz1:(1:Int)≤(s.size:Int):=by omega
  clear hR hXl hm1 hm2 HMC HMF HMX he hh h61 hb HCN
  have F4:=sE HQ
  go_wp2_with fail
  try rw [hX]
  clear hX
  refine (HPF.out _).mono ?_
  rintro e w5 ⟨tv,rfl,hown,hb6⟩
  clear F4
  obtain ⟨ta,tc,rfl⟩:=bp hown
  have H7:=Lib.hid (HQ.out.below hb6)
  clear hb6 HQ hown
  have F5:=sE H7
  by_cases hre:re=0
  ·subst hre
   have HM:=keep (HM1.out rfl)
   clear HM1 HM2
   go_wp2_with fail
   try rw [Exit.noGoto_ret]
   have HE:=Lib.hid (((((H7.out.set_ (i:=0) (u:=.bool true) (Nat.le_refl _) (fun x hx=>absurd hx (by simp))).set_ (i:=1) (u:=.int .u8 0) (Nat.le_refl _) (fun x hx=>absurd hx (by simp))).set_ (i:=2) (u:=.int .i64 0) (Nat.le_refl _) (fun x hx=>absurd hx (by simp))).set_ (i:=3) (u:=.string ⟨#[]⟩) (Nat.le_refl _) (fun x hx=>absurd hx (by simp))).set_ (i:=4) (u:=.slice ta tr.length tc) (Nat.le_refl _) (fun x hx=>absurd hx (by simp)))
   have F9:=HE.out.sees
   simp only [sees,af,aa,Nat.reduceAdd,List.set_cons_succ,List.set_cons_zero] at F9
   obtain ⟨⟨⟨y0,g0⟩,r0,r1,r2,r3,r4,-⟩,-⟩:=F9
   have hpp:=HPP.out
   subst hpp
   exact bodyPost_ret (v:=.tuple #[.agg #[.bool true,.int .u8 0,.int .i64 0,.string ⟨#[]⟩,.slice ta tr.length tc],.int .i64 0,.int .i64 0]) (by simp [results,results85,go_sem,r0,r1,r2,r3,r4]) rfl ⟨true,0,0,0,⟨#[]⟩,ta,tr.length,tc,(by rw [HM.out]; try rfl),HE.out.bel⟩
  have HM:=keep (HM2.out hre)
  have hreb:(re != 0)=true:=by simp [hre]
  clear HM1 HM2
  obtain ⟨hr0,hr1⟩:=hrng
  have hraw:IntKind.i64.wrap (ra+1)=ra+1:=Go.IntWalk.i64_in _ (by omega)
  go_wp2_with fail
  try rw [Exit.noGoto_ret]
  have HE:=Lib.hid (((((H7.out.set_ (i:=0) (u:=.bool false) (Nat.le_refl _) (fun x hx=>absurd hx (by simp))).set_ (i:=1) (u:=.int .u8 0) (Nat.le_refl _) (fun x hx=>absurd hx (by simp))).set_ (i:=2) (u:=.int .i64 0) (Nat.le_refl _) (fun x hx=>absurd hx (by simp))).set_ (i:=3) (u:=.string ⟨#[]⟩) (Nat.le_refl _) (fun x hx=>absurd hx (by simp))).set_ (i:=4) (u:=.slice none 0 0) (Nat.le_refl _) (fun x hx=>absurd hx (by simp)))
  have F9:=HE.out.sees
  simp only [sees,af,aa,Nat.reduceAdd,List.set_cons_succ,List.set_cons_zero] at F9
  obtain ⟨⟨⟨y0,g0⟩,r0,r1,r2,r3,r4,-⟩,-⟩:=F9
  have hpp:=HPP.out
  subst hpp
  exact bodyPost_ret (v:=.tuple #[.agg #[.bool false,.int .u8 0,.int .i64 0,.string ⟨#[]⟩,.slice none 0 0],.int .i64 (ra+1),.int .i64 re]) (by simp [results,results85,go_sem,r0,r1,r2,r3,r4]) rfl ⟨false,0,0,(ra+1),⟨#[]⟩,none,0,0,(by rw [HM.out]; try rfl),HE.out.bel⟩
