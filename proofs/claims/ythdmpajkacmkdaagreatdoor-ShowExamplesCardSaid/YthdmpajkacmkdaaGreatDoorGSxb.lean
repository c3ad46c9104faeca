/- ShowExamples: the walk. -/
import Derived.Test.YthdmpajkacmkdaaGreatDoorGSxa
import Derived.Test.YthdmpajkacmkdaaGreatDoorGTg
import Derived.Test.YthdmpajkacmkdaaGreatDoorGRpw
namespace Go.Proofs.YthdmpajkacmkdaaGreatDoor
set_option maxRecDepth 100000
set_option maxHeartbeats 16000000
open Go.RowKit Go.Proofs.Tryz
def rtS (j:Nat):List NdA:=[rtN 4 0,rtN 5 0]++(List.range j).map (fun i=>rtN 6 ((i+1:Nat):Int))
theorem zc (j:Nat):(rtS j).length=2+j:=by simp [rtS]; omega
theorem tV (j:Nat):ak (rtS j)++[.int .u8 6,.int .u8 0,.int .i64 0,.string ⟨#[]⟩,.int .i64 0,.int .i64 0,.int .i64 0,.int .i64 0,.int .i64 ((j+1:Nat):Int),.int .u8 0,.int .i64 0]=ak (rtS (j+1)):=by
 unfold rtS ak
 rw [List.range_succ,List.map_append,← List.append_assoc]
 simp only [List.flatMap_append]
 rfl
theorem so {i:Nat} (h:i<14):∃ k o,(rtS 12)[i]?=some (rtN k o)∧k≤255:=by
 have:∀ i,i<14→∃ k o,(rtS 12)[i]?=some (rtN k o)∧k≤255:=by
  intro i h
  by_cases h2:i<2
  ·match i,h2 with
   | 0,_=>exact ⟨4,0,rfl,by decide⟩
   | 1,_=>exact ⟨5,0,rfl,by decide⟩
  refine ⟨6,((i - 2+1:Nat):Int),?_,by decide⟩
  unfold rtS
  rw [List.getElem?_append_right (by show 2≤i; omega),List.getElem?_map,List.getElem?_range (by show i - 2<12; omega)]
  rfl
 exact this i h
theorem ke (w:World) (he:cn w) :
  Calls prog 3 #[] w fun e w'=>e=.returned (.bool true)∧Below w.heap.size w w':=by
 obtain ⟨i0,hi,hz0,hz1,hz2⟩:=info_parts iy
 have HE:=keep he
 clear he
 have H0:=Lib.hid (ai.of_new (Ok.start w) ((Below.refl _ _).alloc (Nat.le_refl _) _) (World.ownsRow_lit (base:=w.heap.size) (e:=27) (size:=11) w #[.int .u8 4,.int .u8 0,.int .i64 0,.string ⟨#[]⟩,.int .i64 0,.int .i64 0,.int .i64 0,.int .i64 0,.int .i64 0,.int .u8 0,.int .i64 0,.int .u8 5,.int .u8 0,.int .i64 0,.string ⟨#[]⟩,.int .i64 0,.int .i64 0,.int .i64 0,.int .i64 0,.int .i64 0,.int .u8 0,.int .i64 0] 2 (Nat.le_refl _) (by decide) rfl))
 go_enter func3,ntmps3
 go_wp2_with fail
 generalize (w.alloc (.cells #[.int .u8 4,.int .u8 0,.int .i64 0,.string ⟨#[]⟩,.int .i64 0,.int .i64 0,.int .i64 0,.int .i64 0,.int .i64 0,.int .u8 0,.int .i64 0,.int .u8 5,.int .u8 0,.int .i64 0,.string ⟨#[]⟩,.int .i64 0,.int .i64 0,.int .i64 0,.int .i64 0,.int .i64 0,.int .u8 0,.int .i64 0] 27))=w1 at H0 ⊢
 go_loopw [1,2] (fun rv ov wr=>∃ (j g c:Nat),j≤12∧ov=.int .i64 ((j+1:Nat):Int)∧rv=.slice (some ⟨g,0,none⟩) (2+j) c∧Hid (ai w [] 27 11 (.slice (some ⟨g,0,none⟩) (2+j) c) (2+j) (ak (rtS j)) wr)) (fun _ ov _=>13 - (intOf ov).toNat)
 case atStart=>exact ⟨0,_,_,by omega,by go_num,rfl,H0⟩
 case round =>
  obtain ⟨j,g,c,hj,rfl,rfl,HQ⟩:=hrel
  obtain ⟨wr1,rfl⟩:∃ wr1:World,wr1=wr:=⟨_,rfl⟩
  clear H0
  by_cases hlt:((j+1:Nat):Int)≤12
  ·have H9:=Lib.hid (HQ.out.alloc_obj (.cells #[.int .u8 6,.int .u8 0,.int .i64 0,.string ⟨#[]⟩,.int .i64 0,.int .i64 0,.int .i64 0,.int .i64 0,.int .i64 ((j+1:Nat):Int),.int .u8 0,.int .i64 0] 27))
   have HN:=keep (zc j)
   have HL:=keep (ey (rtS j))
   go_wp2_with (at_builtin; go_loud (refine wpList_append_lies _ rfl _ _ _ rfl w.heap.size 27 i0 _ 11 96 underlying28 hi hz0 hz1 hz2 rfl (by omega) _ _ _ rfl H9.out.own ⟨_,0,none⟩ 1 1 [.int .u8 6,.int .u8 0,.int .i64 0,.string ⟨#[]⟩,.int .i64 0,.int .i64 0,.int .i64 0,.int .i64 0,.int .i64 ((j+1:Nat):Int),.int .u8 0,.int .i64 0] rfl rfl (World.news_of_block (cs:=#[.int .u8 6,.int .u8 0,.int .i64 0,.string ⟨#[]⟩,.int .i64 0,.int .i64 0,.int .i64 0,.int .i64 0,.int .i64 ((j+1:Nat):Int),.int .u8 0,.int .i64 0]) (t:=27) (fr:=(0,0)) (heap_alloc_new _ _)) (by simp [Value.oneCell']) (by omega) (by unfold maxLen; omega) (by omega) H9.out.ok.bel.size _ rfl ?_); intro g3 cap3 w3 hown3 hgrow3 hat3 hlt3)
   have h9:=Lib.hid (H9.out.appended hown3 hgrow3 hat3)
   go_roundw
   case rel=>exact ⟨j+1,g3,cap3,by omega,by go_num,rfl,by rw [← tV]; exact h9⟩
   case measure=>simp [intOf]; omega
  obtain rfl:j=12:=by omega
  obtain ⟨a9,c9,e9,-,-,hrow⟩:=ly (t:=rtS 12) HQ.out.own
  cases e9
  have HRW:=keep hrow
  have HB1:=Lib.hid HQ.out.ok.bel
  have HE1:=keep (HE.out.below HB1.out)
  clear hrow HQ hj hlt HE
  go_wp2_with fail
  go_loopw [3] (fun iv wr=>∃ i:Nat,i≤14∧iv=.int .i64 (i:Int)∧Hid (Ok wr1 [] wr)) (fun iv _=>14 - (intOf iv).toNat)
  case atStart=>exact ⟨0,by omega,rfl,Lib.hid (Ok.start wr1)⟩
  case round =>
   obtain ⟨i,hi14,rfl,HQ⟩:=hrel
   obtain ⟨wr2,rfl⟩:∃ wr2:World,wr2=wr:=⟨_,rfl⟩
   by_cases hil:(i:Int)<14
   ·go_wp2_with fail
    go_loopw [4] (fun kv wr=>∃ k:Nat,k≤14∧kv=.int .i64 (k:Int)∧Hid (Ok wr1 [] wr)) (fun kv _=>14 - (intOf kv).toNat)
    case atStart=>exact ⟨0,by omega,rfl,HQ⟩
    case round =>
     obtain ⟨k,hk14,rfl,HQ2⟩:=hrel
     obtain ⟨wp,rfl⟩:∃ wp:World,wp=wr:=⟨_,rfl⟩
     clear HQ
     by_cases hkl:(k:Int)<14
     ·obtain ⟨xk,xo,hx,hxk⟩:=so (i:=k) (by omega)
      obtain ⟨yk,yo,hy,hyk⟩:=so (i:=i) (by omega)
      obtain ⟨b1,o1,e1,hB1,hc1⟩:=fj (HRW.out.below HQ2.out.bel) (i:=k) (r:=bf (rtN xk xo)) (by rw [List.getElem?_map,hx]; rfl)
      obtain ⟨b2,o2,e2,hB2,hc2⟩:=fj (HRW.out.below HQ2.out.bel) (i:=i) (r:=bf (rtN yk yo)) (by rw [List.getElem?_map,hy]; rfl)
      cases e1
      cases e2
      have q1:=fy (w:=wp) (b:=g) (o:=0+k * 11) (bf (rtN xk xo)) hc1
      have q2:=fy (w:=wp) (b:=g) (o:=0+i * 11) (bf (rtN yk yo)) hc2
      rw [Nat.zero_add] at q1 q2
      have H1:=Lib.hid ((HQ2.out.add (aa g (i * 11) [.int .u8 (yk:Nat),.int .u8 0,.int .i64 0,.string ⟨#[]⟩,.int .i64 0,.int .i64 0,.int .i64 0,.int .i64 0,.int .i64 yo,.int .u8 0,.int .i64 0]) ⟨hB2,q2⟩).add (aa g (k * 11) [.int .u8 (xk:Nat),.int .u8 0,.int .i64 0,.string ⟨#[]⟩,.int .i64 0,.int .i64 0,.int .i64 0,.int .i64 0,.int .i64 xo,.int .u8 0,.int .i64 0]) ⟨hB1,q1⟩)
      obtain ⟨AL,hAL⟩:=ex (iW xk)
      obtain ⟨BL,hBL⟩:=ex (iW yk)
      have HAL:=keep (Ad hAL)
      have HBL:=keep (show BL=[nmN 10000,nmN 20000]∨BL=[nmN 10000] from hBL▸mI yk)
      have HA:=keep (fun W=>mR xk xo W)
      have HB:=keep (fun W=>mR yk yo W)
      rw [hAL] at HA
      rw [hBL] at HB
      obtain ⟨la,hla⟩:=ex (AL.length)
      obtain ⟨lb,hlb⟩:=ex (BL.length)
      rw [hla] at HA
      rw [hlb] at HB
      have HLA:=keep hla
      have HLB:=keep hlb
      clear hla hlb hAL hBL hx hy hc1 hc2 q1 q2 hB1 hB2 HQ2
      go_upto_region 12 with fail
      refine wp_region_held_drew (S:=fun W=>Ok wr1 [aa g (k * 11) [.int .u8 (xk:Nat),.int .u8 0,.int .i64 0,.string ⟨#[]⟩,.int .i64 0,.int .i64 0,.int .i64 0,.int .i64 0,.int .i64 xo,.int .u8 0,.int .i64 0],aa g (i * 11) [.int .u8 (yk:Nat),.int .u8 0,.int .i64 0,.string ⟨#[]⟩,.int .i64 0,.int .i64 0,.int .i64 0,.int .i64 0,.int .i64 yo,.int .u8 0,.int .i64 0]] W) (by kernel_rfl) H1.out.drew (fun hHeld => ?_)
      clear H1
      refine wt3 0 ?_
      refine wt3 1 ?_
      refine wt3 2 ?_
      refine wt3 3 ?_
      refine wt3 5 ?_
      refine wt3 6 ?_
      refine wt3 7 ?_
      refine wt3 8 ?_
      refine wal 4 fun K hK => ?_
      go_simp
      refine (HA.out _).mono ?_
      rintro e w2 ⟨ga,ca,rfl,hown,hb⟩
      have HRA:=Lib.hid (ai.of_new hHeld hb hown).pers
      go_wp2_with fail
      refine hK.out _ _ (hHeld.below hb) (fun hHeld => ?_)
      clear hK K
      refine wn ?_
      clear hown hb
      refine wal 9 fun K hK => ?_
      go_simp
      refine (HB.out _).mono ?_
      rintro e w3 ⟨gb,cb,rfl,hown,hb⟩
      have HRB:=Lib.hid (ai.of_new HRA.out hb hown).pers
      go_wp2_with fail
      refine hK.out _ _ (hHeld.below hb) (fun hHeld => ?_)
      clear hK K
      refine wn ?_
      clear hown hb HRA
      refine wt3 10 ?_
      refine wt3 11 ?_
      refine wpAnyH_done (by kernel_rfl) ?_ _
      clear hHeld HA HB
      obtain ⟨hal,hla⟩:=HAL.out
      rw [HLA.out] at hla
      have HCA:=keep (show (ak AL).length=la * 11 by rw [ey,HLA.out])
      go_upto_region 13 with fail
      refine wp_region_held_drew (S:=fun W=>Ok wr1 [aK wr1.heap.size 27 11 (.slice (some ⟨gb,0,none⟩) lb cb) lb (ak BL),aK wr1.heap.size 27 11 (.slice (some ⟨ga,0,none⟩) la ca) la (ak AL),aa g (k * 11) [.int .u8 (xk:Nat),.int .u8 0,.int .i64 0,.string ⟨#[]⟩,.int .i64 0,.int .i64 0,.int .i64 0,.int .i64 0,.int .i64 xo,.int .u8 0,.int .i64 0],aa g (i * 11) [.int .u8 (yk:Nat),.int .u8 0,.int .i64 0,.string ⟨#[]⟩,.int .i64 0,.int .i64 0,.int .i64 0,.int .i64 0,.int .i64 yo,.int .u8 0,.int .i64 0]] W) (by kernel_rfl) HRB.out.drew (fun hHeld => ?_)
      have HD:=Lib.hid HRB.out.drew
      clear HRB
      generalize w3.drew=w4 at hHeld HD ⊢
      refine wt3 1 ?_
      refine wt3 3 ?_
      refine wt3 4 ?_
      refine wt3 5 ?_
      refine wt3 6 ?_
      refine lJ (T:=[0,2,8,7]) (dep:=fun i=>if i=2 then [0] else if i=8 then [2,7] else if i=100 then [8] else []) (L1:=#[true,true,true,true,true,true,true,true,true,false]) (f:=4) (g:=1) (n1:=0+la) (n2:=0+la+1) (n3:=0) (X1:=[]++ak AL) (X2:=[]++ak AL++[.int .u8 (xk:Nat),.int .u8 0,.int .i64 0,.string ⟨#[]⟩,.int .i64 0,.int .i64 0,.int .i64 0,.int .i64 0,.int .i64 xo,.int .u8 0,.int .i64 0]) (X3:=[]) (tN:=27) (sz:=11) (c1:=[.int .u8 (xk:Nat),.int .u8 0,.int .i64 0,.string ⟨#[]⟩,.int .i64 0,.int .i64 0,.int .i64 0,.int .i64 0,.int .i64 xo,.int .u8 0,.int .i64 0]) (c2:=[]) 0 2 8 100 7 101 (some 47) (some 49) (some 55) none (some 54) none HD (by kernel_rfl) rfl (by decide) (by decide) (by decide) ⟨rfl,rfl,rfl,rfl,rfl,rfl⟩ ?h0 ?hb1 ?hb2 ?h1 ?h2 ?h3 ?hend
      case h0 =>
       intro x0 x1 x2 x3 y1 y2 W K hk
       simp only [chA,Act.put,List.setIfInBounds_toArray,List.set_cons_zero,List.set_cons_succ] at hk ⊢
       refine wpOp_step rfl (fun K' hK => ?_)
       go_simp
       exact hK _ _ hk
      case hb1 =>
       intro x0 x1 x2 x3 y1 y2 W K hS hk
       simp only [chA,Act.put,List.setIfInBounds_toArray,List.set_cons_zero,List.set_cons_succ] at hk ⊢
       refine wpOp_step rfl (fun K' hK => ?_)
       go_simp
       exact hK _ _ hk
      case hb2 =>
       exact fun h=>absurd h (by decide)
      case h1 =>
       intro x0 x1 x2 x3 y1 y2 v ps W K hok hsub hy1 hy2 hk
       have hr:=hok.ok.get (aK wr1.heap.size 27 11 (.slice (some ⟨ga,0,none⟩) la ca) la (ak AL)) (hsub _ (by simp))
       dsimp only at hk ⊢
       simp only [chA,Act.put,List.setIfInBounds_toArray,List.set_cons_zero,List.set_cons_succ] at hk ⊢
       refine wpOp_step rfl (fun K' hK => ?_)
       rw [if_pos (by rfl)]
       refine wp_append_lies W _ _ _ rfl wr1.heap.size 27 i0 _ 11 96 underlying28 hi hz0 hz1 hz2 rfl (by omega) _ _ _ (by rfl) hok.own ⟨ga,0,none⟩ la ca (ak AL) (by rfl) (HCA.out) (World.ownsRow.cells hr (g:=ga) rfl) (ez AL) (by omega) (by unfold maxLen; omega) (by omega) hok.ok.bel.size _ rfl ?_
       intro g3 cap3 w4 hown3 hgrow3 hat3 _
       refine hK _ _ ?_
       simp only [Act.put,List.setIfInBounds_toArray,List.set_cons_zero,List.set_cons_succ,List.getElem_toArray,List.getElem_cons_succ,List.getElem_cons_zero]
       exact hk _ _ (hok.appended hown3 hgrow3 hat3)
      case h2 =>
       intro x0 x1 x2 x3 y1 y2 v ps W K hok hsub hy1 hy2 hk
       obtain ⟨gq,rfl,hm⟩:=hy1 (by decide)
       dsimp only at hk ⊢
       simp only [chA,Act.put,List.setIfInBounds_toArray,List.set_cons_zero,List.set_cons_succ] at hk ⊢
       refine wpOp_step rfl (fun K' hK => ?_)
       rw [if_pos (by rfl)]
       refine wp_append_lies W _ _ _ rfl wr1.heap.size 27 i0 _ 11 96 underlying28 hi hz0 hz1 hz2 rfl (by omega) _ _ _ (by rfl) hok.own ⟨gq,0,none⟩ 1 1 [.int .u8 (xk:Nat),.int .u8 0,.int .i64 0,.string ⟨#[]⟩,.int .i64 0,.int .i64 0,.int .i64 0,.int .i64 0,.int .i64 xo,.int .u8 0,.int .i64 0] (by rfl) rfl (World.news_of_block (cs:=#[.int .u8 (xk:Nat),.int .u8 0,.int .i64 0,.string ⟨#[]⟩,.int .i64 0,.int .i64 0,.int .i64 0,.int .i64 0,.int .i64 xo,.int .u8 0,.int .i64 0]) (t:=27) (fr:=(0,0)) (hok.ok.get _ hm)) (by simp [Value.oneCell']) (by omega) (by unfold maxLen; omega) (by omega) hok.ok.bel.size _ rfl ?_
       intro g3 cap3 w4 hown3 hgrow3 hat3 _
       refine hK _ _ ?_
       simp only [Act.put,List.setIfInBounds_toArray,List.set_cons_zero,List.set_cons_succ,List.getElem_toArray,List.getElem_cons_succ,List.getElem_cons_zero]
       exact hk _ _ (hok.appended hown3 hgrow3 hat3)
      case h3 =>
       exact fun h=>absurd h (by decide)
      case hend =>
       intro c x0 x1 x2 x3 y1 y2 v n xs W e2 e3 hc q3 q4 hok
       obtain rfl:c=3:=by
        have e2:true=decide (3≤c):=e2
        have e3:false=decide (4≤c):=e3
        simp at e2 e3
        omega
       obtain ⟨rfl,rfl,rfl⟩:=q3 rfl
       clear e2 e3 hc q3 q4
       obtain ⟨gl,cl,rfl,-,-⟩:=hok.own.form (by omega)
       simp only [chA,Act.put,List.setIfInBounds_toArray,List.set_cons_zero,List.set_cons_succ]
       simp only [Nat.zero_add] at hok ⊢
       have hHeld:=hok.ok
       clear HD
       obtain ⟨LL,hLL⟩:=ex (AL++[rtN xk xo])
       have HLI:=keep (show ∀ n∈LL,iU n from hLL▸j6 hal (gO (sq xk xo)))
       rw [show []++ak AL++[.int .u8 (xk:Nat),.int .u8 0,.int .i64 0,.string ⟨#[]⟩,.int .i64 0,.int .i64 0,.int .i64 0,.int .i64 0,.int .i64 xo,.int .u8 0,.int .i64 0]=ak LL by rw [← hLL,List.nil_append]; unfold ak; rw [List.flatMap_append]; rfl] at hok
       obtain ⟨ll,hll⟩:=ex (la+1)
       rw [hll] at hok ⊢
       have hl4:1≤ll∧ll≤3:=by omega
       have HLN:=keep (show LL.length=ll by rw [← hLL,List.length_append,HLA.out,← hll]; rfl)
       have HCL:=keep (show (ak LL).length=ll * 11 by rw [ey,HLN.out])
       clear hLL hll hal HCA HAL HLA
       refine wt3 9 ?_
       refine wpAnyH_done (by kernel_rfl) ?_ _
       have HR:=Lib.hid (hok.drop [aK wr1.heap.size 27 11 (.slice (some ⟨gb,0,none⟩) lb cb) lb (ak BL),aa g (i * 11) [.int .u8 (yk:Nat),.int .u8 0,.int .i64 0,.string ⟨#[]⟩,.int .i64 0,.int .i64 0,.int .i64 0,.int .i64 0,.int .i64 yo,.int .u8 0,.int .i64 0]] (by simp))
       clear hok hHeld
       rcases HBL.out with e | e
       ·subst e
        obtain rfl:2=lb:=HLB.out
        have hrb:=HR.out.ok.get (aK wr1.heap.size 27 11 (.slice (some ⟨gb,0,none⟩) 2 cb) 2 (ak [nmN 10000,nmN 20000])) (by simp)
        have qb:=fy (w:=W) (b:=gb) (o:=0) [.int .u8 1,.int .u8 1,.int .i64 10000,.string ⟨#[]⟩,.int .i64 0,.int .i64 0,.int .i64 0,.int .i64 0,.int .i64 0,.int .u8 0,.int .i64 0,.int .u8 1,.int .u8 1,.int .i64 20000,.string ⟨#[]⟩,.int .i64 0,.int .i64 0,.int .i64 0,.int .i64 0,.int .i64 0,.int .u8 0,.int .i64 0] (fun j v hj=>by
         have hl:=(List.getElem?_eq_some_iff.1 hj).1
         rw [Nat.zero_add,World.ownsRow.cellAt hrb j hl]
         exact hj)
        have HS:=Lib.hid ((HR.out.drop [aa g (i * 11) [.int .u8 (yk:Nat),.int .u8 0,.int .i64 0,.string ⟨#[]⟩,.int .i64 0,.int .i64 0,.int .i64 0,.int .i64 0,.int .i64 yo,.int .u8 0,.int .i64 0]] (by simp)).pers.add (aa gb 0 [.int .u8 1,.int .u8 1,.int .i64 10000,.string ⟨#[]⟩,.int .i64 0,.int .i64 0,.int .i64 0,.int .i64 0,.int .i64 0,.int .u8 0,.int .i64 0,.int .u8 1,.int .u8 1,.int .i64 20000,.string ⟨#[]⟩,.int .i64 0,.int .i64 0,.int .i64 0,.int .i64 0,.int .i64 0,.int .u8 0,.int .i64 0]) ⟨(World.ownsRow.lt hrb gb rfl).2,qb⟩)
        clear HR hrb qb HBL HLB
        go_upto_region 15 with fail
        refine wp_region_held_drew (S:=fun W=>Ok wr1 [aa gb 0 [.int .u8 1,.int .u8 1,.int .i64 10000,.string ⟨#[]⟩,.int .i64 0,.int .i64 0,.int .i64 0,.int .i64 0,.int .i64 0,.int .u8 0,.int .i64 0,.int .u8 1,.int .u8 1,.int .i64 20000,.string ⟨#[]⟩,.int .i64 0,.int .i64 0,.int .i64 0,.int .i64 0,.int .i64 0,.int .u8 0,.int .i64 0],aK wr1.heap.size 27 11 (.slice (some ⟨gl,0,none⟩) ll cl) ll (ak LL),aa g (i * 11) [.int .u8 (yk:Nat),.int .u8 0,.int .i64 0,.string ⟨#[]⟩,.int .i64 0,.int .i64 0,.int .i64 0,.int .i64 0,.int .i64 yo,.int .u8 0,.int .i64 0]] W) (by kernel_rfl) HS.out.drew (fun hHeld => ?_)
        have HD:=Lib.hid HS.out.drew
        clear HS
        generalize W.drew=W2 at hHeld HD ⊢
        refine wt3 1 ?_
        refine wt3 3 ?_
        refine wt3 4 ?_
        refine wt3 5 ?_
        refine wt3 8 ?_
        refine wt3 9 ?_
        refine wt3 10 ?_
        refine wt3 11 ?_
        refine lJ (T:=[0,2,7,13,6,12]) (dep:=fun i=>if i=2 then [0] else if i=7 then [2,6] else if i=13 then [7,12] else []) (L1:=#[true,true,true,true,true,true,true,true,true,true,true,true,true,true,false,false,false,false,false,false,false,false,false,false,false,false,false,false,false,false,false,false,false,false]) (f:=6) (g:=20) (n1:=0+ll) (n2:=0+ll+1) (n3:=0+ll+1+1) (X1:=[]++ak LL) (X2:=[]++ak LL++[.int .u8 1,.int .u8 1,.int .i64 20000,.string ⟨#[]⟩,.int .i64 0,.int .i64 0,.int .i64 0,.int .i64 0,.int .i64 0,.int .u8 0,.int .i64 0]) (X3:=[]++ak LL++[.int .u8 1,.int .u8 1,.int .i64 20000,.string ⟨#[]⟩,.int .i64 0,.int .i64 0,.int .i64 0,.int .i64 0,.int .i64 0,.int .u8 0,.int .i64 0]++[.int .u8 (yk:Nat),.int .u8 0,.int .i64 0,.string ⟨#[]⟩,.int .i64 0,.int .i64 0,.int .i64 0,.int .i64 0,.int .i64 yo,.int .u8 0,.int .i64 0]) (tN:=27) (sz:=11) (c1:=[.int .u8 1,.int .u8 1,.int .i64 20000,.string ⟨#[]⟩,.int .i64 0,.int .i64 0,.int .i64 0,.int .i64 0,.int .i64 0,.int .u8 0,.int .i64 0]) (c2:=[.int .u8 (yk:Nat),.int .u8 0,.int .i64 0,.string ⟨#[]⟩,.int .i64 0,.int .i64 0,.int .i64 0,.int .i64 0,.int .i64 yo,.int .u8 0,.int .i64 0]) 0 2 7 13 6 12 (some 59) (some 61) (some 66) (some 72) (some 65) (some 71) HD (by kernel_rfl) rfl (by decide) (by decide) (by decide) ⟨rfl,rfl,rfl,rfl,rfl,rfl⟩ ?h0 ?hb1 ?hb2 ?h1 ?h2 ?h3 ?hend
        case h0 =>
         intro x0 x1 x2 x3 y1 y2 W K hk
         simp only [chA,Act.put,List.setIfInBounds_toArray,List.set_cons_zero,List.set_cons_succ] at hk ⊢
         refine wpOp_step rfl (fun K' hK => ?_)
         go_simp
         exact hK _ _ hk
        case hb1 =>
         intro x0 x1 x2 x3 y1 y2 W K hS hk
         simp only [chA,Act.put,List.setIfInBounds_toArray,List.set_cons_zero,List.set_cons_succ] at hk ⊢
         refine wpOp_step rfl (fun K' hK => ?_)
         go_simp
         exact hK _ _ hk
        case hb2 =>
         intro _ x0 x1 x2 x3 y1 y2 W K hS hk
         simp only [chA,Act.put,List.setIfInBounds_toArray,List.set_cons_zero,List.set_cons_succ] at hk ⊢
         refine wpOp_step rfl (fun K' hK => ?_)
         go_simp
         exact hK _ _ hk
        case h1 =>
         intro x0 x1 x2 x3 y1 y2 v ps W K hok hsub hy1 hy2 hk
         have hr:=hok.ok.get (aK wr1.heap.size 27 11 (.slice (some ⟨gl,0,none⟩) ll cl) ll (ak LL)) (hsub _ (by simp))
         dsimp only at hk ⊢
         simp only [chA,Act.put,List.setIfInBounds_toArray,List.set_cons_zero,List.set_cons_succ] at hk ⊢
         refine wpOp_step rfl (fun K' hK => ?_)
         rw [if_pos (by rfl)]
         refine wp_append_lies W _ _ _ rfl wr1.heap.size 27 i0 _ 11 96 underlying28 hi hz0 hz1 hz2 rfl (by omega) _ _ _ (by rfl) hok.own ⟨gl,0,none⟩ ll cl (ak LL) (by rfl) (HCL.out) (World.ownsRow.cells hr (g:=gl) rfl) (ez LL) (by omega) (by unfold maxLen; omega) (by omega) hok.ok.bel.size _ rfl ?_
         intro g3 cap3 w4 hown3 hgrow3 hat3 _
         refine hK _ _ ?_
         simp only [Act.put,List.setIfInBounds_toArray,List.set_cons_zero,List.set_cons_succ,List.getElem_toArray,List.getElem_cons_succ,List.getElem_cons_zero]
         exact hk _ _ (hok.appended hown3 hgrow3 hat3)
        case h2 =>
         intro x0 x1 x2 x3 y1 y2 v ps W K hok hsub hy1 hy2 hk
         obtain ⟨gq,rfl,hm⟩:=hy1 (by decide)
         dsimp only at hk ⊢
         simp only [chA,Act.put,List.setIfInBounds_toArray,List.set_cons_zero,List.set_cons_succ] at hk ⊢
         refine wpOp_step rfl (fun K' hK => ?_)
         rw [if_pos (by rfl)]
         refine wp_append_lies W _ _ _ rfl wr1.heap.size 27 i0 _ 11 96 underlying28 hi hz0 hz1 hz2 rfl (by omega) _ _ _ (by rfl) hok.own ⟨gq,0,none⟩ 1 1 [.int .u8 1,.int .u8 1,.int .i64 20000,.string ⟨#[]⟩,.int .i64 0,.int .i64 0,.int .i64 0,.int .i64 0,.int .i64 0,.int .u8 0,.int .i64 0] (by rfl) rfl (World.news_of_block (cs:=#[.int .u8 1,.int .u8 1,.int .i64 20000,.string ⟨#[]⟩,.int .i64 0,.int .i64 0,.int .i64 0,.int .i64 0,.int .i64 0,.int .u8 0,.int .i64 0]) (t:=27) (fr:=(0,0)) (hok.ok.get _ hm)) (by simp [Value.oneCell']) (by omega) (by unfold maxLen; omega) (by omega) hok.ok.bel.size _ rfl ?_
         intro g3 cap3 w4 hown3 hgrow3 hat3 _
         refine hK _ _ ?_
         simp only [Act.put,List.setIfInBounds_toArray,List.set_cons_zero,List.set_cons_succ,List.getElem_toArray,List.getElem_cons_succ,List.getElem_cons_zero]
         exact hk _ _ (hok.appended hown3 hgrow3 hat3)
        case h3 =>
         intro _
         intro x0 x1 x2 x3 y1 y2 v ps W K hok hsub hy1 hy2 hk
         obtain ⟨gq,rfl,hm⟩:=hy2 (by decide)
         dsimp only at hk ⊢
         simp only [chA,Act.put,List.setIfInBounds_toArray,List.set_cons_zero,List.set_cons_succ] at hk ⊢
         refine wpOp_step rfl (fun K' hK => ?_)
         rw [if_pos (by rfl)]
         refine wp_append_lies W _ _ _ rfl wr1.heap.size 27 i0 _ 11 96 underlying28 hi hz0 hz1 hz2 rfl (by omega) _ _ _ (by rfl) hok.own ⟨gq,0,none⟩ 1 1 [.int .u8 (yk:Nat),.int .u8 0,.int .i64 0,.string ⟨#[]⟩,.int .i64 0,.int .i64 0,.int .i64 0,.int .i64 0,.int .i64 yo,.int .u8 0,.int .i64 0] (by rfl) rfl (World.news_of_block (cs:=#[.int .u8 (yk:Nat),.int .u8 0,.int .i64 0,.string ⟨#[]⟩,.int .i64 0,.int .i64 0,.int .i64 0,.int .i64 0,.int .i64 yo,.int .u8 0,.int .i64 0]) (t:=27) (fr:=(0,0)) (hok.ok.get _ hm)) (by simp [Value.oneCell']) (by omega) (by unfold maxLen; omega) (by omega) hok.ok.bel.size _ rfl ?_
         intro g3 cap3 w4 hown3 hgrow3 hat3 _
         refine hK _ _ ?_
         simp only [Act.put,List.setIfInBounds_toArray,List.set_cons_zero,List.set_cons_succ,List.getElem_toArray,List.getElem_cons_succ,List.getElem_cons_zero]
         exact hk _ _ (hok.appended hown3 hgrow3 hat3)
        case hend =>
         intro c x0 x1 x2 x3 y1 y2 v n xs W3 e2 e3 hc q3 q4 hok
         obtain rfl:c=4:=by
          have e2:true=decide (3≤c):=e2
          have e3:true=decide (4≤c):=e3
          simp at e2 e3
          omega
         obtain ⟨rfl,rfl,rfl⟩:=q4 rfl
         clear e2 e3 hc q3 q4
         obtain ⟨g5,c5,rfl,-,-⟩:=hok.own.form (by omega)
         simp only [chA,Act.put,List.setIfInBounds_toArray,List.set_cons_zero,List.set_cons_succ]
         simp only [Nat.zero_add] at hok ⊢
         have hHeld:=hok.ok
         clear HD
         refine wal 14 fun K hK => ?_
         go_simp
         refine (fQ hok HE1.out (LL++[nmN 20000]++[rtN yk yo]) (by rw [List.length_append,List.length_append,HLN.out]; rfl) (j6 (j6 HLI.out (gO (sb _ (by decide)))) (gO (sq _ _))) (by simp only [ak,List.flatMap_append]; rfl)).mono ?_
         rintro e W4 ⟨rfl,hb⟩
         go_wp2_with fail
         refine hK.out _ _ (hHeld.below hb) (fun hHeld => ?_)
         clear hK K
         refine wn ?_
         clear hok hb
         refine wt3 15 ?_
         refine wt3 16 ?_
         refine wt3 18 ?_
         refine wt3 19 ?_
         refine wt3 20 ?_
         refine wt3 23 ?_
         refine wt3 25 ?_
         refine wt3 26 ?_
         refine wt3 27 ?_
         refine wt3 28 ?_
         have HD:=Lib.hid hHeld
         refine lJ (T:=[17,22,24,30,21,29]) (dep:=fun i=>if i=22 then [17,21] else if i=24 then [22] else if i=30 then [24,29] else []) (L1:=#[true,true,true,true,true,true,true,true,true,true,true,true,true,true,true,true,true,true,true,true,true,true,true,true,true,true,true,true,true,true,true,false,false,false]) (f:=6) (g:=3) (n1:=0+1) (n2:=0+1+ll) (n3:=0+1+ll+1) (X1:=[]++[.int .u8 1,.int .u8 1,.int .i64 10000,.string ⟨#[]⟩,.int .i64 0,.int .i64 0,.int .i64 0,.int .i64 0,.int .i64 0,.int .u8 0,.int .i64 0]) (X2:=[]++[.int .u8 1,.int .u8 1,.int .i64 10000,.string ⟨#[]⟩,.int .i64 0,.int .i64 0,.int .i64 0,.int .i64 0,.int .i64 0,.int .u8 0,.int .i64 0]++ak LL) (X3:=[]++[.int .u8 1,.int .u8 1,.int .i64 10000,.string ⟨#[]⟩,.int .i64 0,.int .i64 0,.int .i64 0,.int .i64 0,.int .i64 0,.int .u8 0,.int .i64 0]++ak LL++[.int .u8 (yk:Nat),.int .u8 0,.int .i64 0,.string ⟨#[]⟩,.int .i64 0,.int .i64 0,.int .i64 0,.int .i64 0,.int .i64 yo,.int .u8 0,.int .i64 0]) (tN:=27) (sz:=11) (c1:=[.int .u8 1,.int .u8 1,.int .i64 10000,.string ⟨#[]⟩,.int .i64 0,.int .i64 0,.int .i64 0,.int .i64 0,.int .i64 0,.int .u8 0,.int .i64 0]) (c2:=[.int .u8 (yk:Nat),.int .u8 0,.int .i64 0,.string ⟨#[]⟩,.int .i64 0,.int .i64 0,.int .i64 0,.int .i64 0,.int .i64 yo,.int .u8 0,.int .i64 0]) 17 22 24 30 21 29 (some 76) (some 81) (some 83) (some 89) (some 80) (some 88) HD (by kernel_rfl) rfl (by decide) (by decide) (by decide) ⟨rfl,rfl,rfl,rfl,rfl,rfl⟩ ?h0 ?hb1 ?hb2 ?h1 ?h2 ?h3 ?hend
         case h0 =>
          intro x0 x1 x2 x3 y1 y2 W K hk
          simp only [chA,Act.put,List.setIfInBounds_toArray,List.set_cons_zero,List.set_cons_succ] at hk ⊢
          refine wpOp_step rfl (fun K' hK => ?_)
          go_simp
          exact hK _ _ hk
         case hb1 =>
          intro x0 x1 x2 x3 y1 y2 W K hS hk
          simp only [chA,Act.put,List.setIfInBounds_toArray,List.set_cons_zero,List.set_cons_succ] at hk ⊢
          refine wpOp_step rfl (fun K' hK => ?_)
          go_simp
          exact hK _ _ hk
         case hb2 =>
          intro _ x0 x1 x2 x3 y1 y2 W K hS hk
          simp only [chA,Act.put,List.setIfInBounds_toArray,List.set_cons_zero,List.set_cons_succ] at hk ⊢
          refine wpOp_step rfl (fun K' hK => ?_)
          go_simp
          exact hK _ _ hk
         case h1 =>
          intro x0 x1 x2 x3 y1 y2 v ps W K hok hsub hy1 hy2 hk
          obtain ⟨gq,rfl,hm⟩:=hy1 (by decide)
          dsimp only at hk ⊢
          simp only [chA,Act.put,List.setIfInBounds_toArray,List.set_cons_zero,List.set_cons_succ] at hk ⊢
          refine wpOp_step rfl (fun K' hK => ?_)
          rw [if_pos (by rfl)]
          refine wp_append_lies W _ _ _ rfl wr1.heap.size 27 i0 _ 11 96 underlying28 hi hz0 hz1 hz2 rfl (by omega) _ _ _ (by rfl) hok.own ⟨gq,0,none⟩ 1 1 [.int .u8 1,.int .u8 1,.int .i64 10000,.string ⟨#[]⟩,.int .i64 0,.int .i64 0,.int .i64 0,.int .i64 0,.int .i64 0,.int .u8 0,.int .i64 0] (by rfl) rfl (World.news_of_block (cs:=#[.int .u8 1,.int .u8 1,.int .i64 10000,.string ⟨#[]⟩,.int .i64 0,.int .i64 0,.int .i64 0,.int .i64 0,.int .i64 0,.int .u8 0,.int .i64 0]) (t:=27) (fr:=(0,0)) (hok.ok.get _ hm)) (by simp [Value.oneCell']) (by omega) (by unfold maxLen; omega) (by omega) hok.ok.bel.size _ rfl ?_
          intro g3 cap3 w4 hown3 hgrow3 hat3 _
          refine hK _ _ ?_
          simp only [Act.put,List.setIfInBounds_toArray,List.set_cons_zero,List.set_cons_succ,List.getElem_toArray,List.getElem_cons_succ,List.getElem_cons_zero]
          exact hk _ _ (hok.appended hown3 hgrow3 hat3)
         case h2 =>
          intro x0 x1 x2 x3 y1 y2 v ps W K hok hsub hy1 hy2 hk
          have hr:=hok.ok.get (aK wr1.heap.size 27 11 (.slice (some ⟨gl,0,none⟩) ll cl) ll (ak LL)) (hsub _ (by simp))
          dsimp only at hk ⊢
          simp only [chA,Act.put,List.setIfInBounds_toArray,List.set_cons_zero,List.set_cons_succ] at hk ⊢
          refine wpOp_step rfl (fun K' hK => ?_)
          rw [if_pos (by rfl)]
          refine wp_append_lies W _ _ _ rfl wr1.heap.size 27 i0 _ 11 96 underlying28 hi hz0 hz1 hz2 rfl (by omega) _ _ _ (by rfl) hok.own ⟨gl,0,none⟩ ll cl (ak LL) (by rfl) (HCL.out) (World.ownsRow.cells hr (g:=gl) rfl) (ez LL) (by omega) (by unfold maxLen; omega) (by omega) hok.ok.bel.size _ rfl ?_
          intro g3 cap3 w4 hown3 hgrow3 hat3 _
          refine hK _ _ ?_
          simp only [Act.put,List.setIfInBounds_toArray,List.set_cons_zero,List.set_cons_succ,List.getElem_toArray,List.getElem_cons_succ,List.getElem_cons_zero]
          exact hk _ _ (hok.appended hown3 hgrow3 hat3)
         case h3 =>
          intro _
          intro x0 x1 x2 x3 y1 y2 v ps W K hok hsub hy1 hy2 hk
          obtain ⟨gq,rfl,hm⟩:=hy2 (by decide)
          dsimp only at hk ⊢
          simp only [chA,Act.put,List.setIfInBounds_toArray,List.set_cons_zero,List.set_cons_succ] at hk ⊢
          refine wpOp_step rfl (fun K' hK => ?_)
          rw [if_pos (by rfl)]
          refine wp_append_lies W _ _ _ rfl wr1.heap.size 27 i0 _ 11 96 underlying28 hi hz0 hz1 hz2 rfl (by omega) _ _ _ (by rfl) hok.own ⟨gq,0,none⟩ 1 1 [.int .u8 (yk:Nat),.int .u8 0,.int .i64 0,.string ⟨#[]⟩,.int .i64 0,.int .i64 0,.int .i64 0,.int .i64 0,.int .i64 yo,.int .u8 0,.int .i64 0] (by rfl) rfl (World.news_of_block (cs:=#[.int .u8 (yk:Nat),.int .u8 0,.int .i64 0,.string ⟨#[]⟩,.int .i64 0,.int .i64 0,.int .i64 0,.int .i64 0,.int .i64 yo,.int .u8 0,.int .i64 0]) (t:=27) (fr:=(0,0)) (hok.ok.get _ hm)) (by simp [Value.oneCell']) (by omega) (by unfold maxLen; omega) (by omega) hok.ok.bel.size _ rfl ?_
          intro g3 cap3 w4 hown3 hgrow3 hat3 _
          refine hK _ _ ?_
          simp only [Act.put,List.setIfInBounds_toArray,List.set_cons_zero,List.set_cons_succ,List.getElem_toArray,List.getElem_cons_succ,List.getElem_cons_zero]
          exact hk _ _ (hok.appended hown3 hgrow3 hat3)
         case hend =>
          intro c x0 x1 x2 x3 y1 y2 v n xs W5 e2 e3 hc q3 q4 hok
          obtain rfl:c=4:=by
           have e2:true=decide (3≤c):=e2
           have e3:true=decide (4≤c):=e3
           simp at e2 e3
           omega
          obtain ⟨rfl,rfl,rfl⟩:=q4 rfl
          clear e2 e3 hc q3 q4
          obtain ⟨g6,c6,rfl,-,-⟩:=hok.own.form (by omega)
          simp only [chA,Act.put,List.setIfInBounds_toArray,List.set_cons_zero,List.set_cons_succ]
          simp only [Nat.zero_add] at hok ⊢
          have hHeld:=hok.ok
          clear HD
          refine wal 31 fun K hK => ?_
          go_simp
          refine (fQ hok HE1.out ([nmN 10000]++LL++[rtN yk yo]) (by rw [List.length_append,List.length_append,HLN.out]; rfl) (j6 (j6 (gO (sb _ (by decide))) HLI.out) (gO (sq _ _))) (by simp only [ak,List.flatMap_append]; rfl)).mono ?_
          rintro e W6 ⟨rfl,hb⟩
          go_wp2_with fail
          refine hK.out _ _ (hHeld.below hb) (fun hHeld => ?_)
          clear hK K
          refine wn ?_
          clear hok hb
          refine wt3 32 ?_
          refine wt3 33 ?_
          refine wpAnyH_done (by kernel_rfl) ?_ _
          have HZ:=Lib.hid (hHeld.drop [] (by simp))
          clear hHeld
          go_wp2_with fail
          go_roundw
          case rel=>(repeat apply Exists.intro); exact ⟨⟨k+1,by omega,by go_num,HZ⟩,rfl⟩
          case measure=>simp [intOf]; omega
       subst e
       obtain rfl:1=lb:=HLB.out
       have HQ9:=Lib.hid ((HR.out.drop [aa g (i * 11) [.int .u8 (yk:Nat),.int .u8 0,.int .i64 0,.string ⟨#[]⟩,.int .i64 0,.int .i64 0,.int .i64 0,.int .i64 0,.int .i64 yo,.int .u8 0,.int .i64 0]] (by simp)).alloc_obj (.cells #[.int .u8 (yk:Nat),.int .u8 0,.int .i64 0,.string ⟨#[]⟩,.int .i64 0,.int .i64 0,.int .i64 0,.int .i64 0,.int .i64 yo,.int .u8 0,.int .i64 0] 27))
       have HS:=Lib.hid (HR.out.ok.drop [aa g (i * 11) [.int .u8 (yk:Nat),.int .u8 0,.int .i64 0,.string ⟨#[]⟩,.int .i64 0,.int .i64 0,.int .i64 0,.int .i64 0,.int .i64 yo,.int .u8 0,.int .i64 0]] (by simp))
       clear HR HBL HLB
       have F1:=sE HS
       go_wp2_with (at_builtin; go_loud (refine wpList_append_lies _ rfl _ _ _ rfl wr1.heap.size 27 i0 _ 11 96 underlying28 hi hz0 hz1 hz2 rfl (by omega) _ _ _ rfl HQ9.out.own ⟨_,0,none⟩ 1 1 [.int .u8 (yk:Nat),.int .u8 0,.int .i64 0,.string ⟨#[]⟩,.int .i64 0,.int .i64 0,.int .i64 0,.int .i64 0,.int .i64 yo,.int .u8 0,.int .i64 0] rfl rfl (World.news_of_block (cs:=#[.int .u8 (yk:Nat),.int .u8 0,.int .i64 0,.string ⟨#[]⟩,.int .i64 0,.int .i64 0,.int .i64 0,.int .i64 0,.int .i64 yo,.int .u8 0,.int .i64 0]) (t:=27) (fr:=(0,0)) (heap_alloc_new _ _)) (by simp [Value.oneCell']) (by omega) (by unfold maxLen; omega) (by omega) HQ9.out.ok.bel.size _ rfl ?_); intro g3 cap3 w6 hown3 hgrow3 hat3 hlt3)
       have hok:=HQ9.out.appended hown3 hgrow3 hat3
       refine (fQ hok HE1.out (LL++[rtN yk yo]) (by simp [HLN.out]) (j6 HLI.out (gO (sq _ _))) (by simp only [ak,List.flatMap_append]; rfl)).mono ?_
       rintro e W6 ⟨rfl,hb⟩
       have HZ:=Lib.hid ((hok.ok.below hb).drop [] (by simp))
       clear hok hb HQ9 HS
       go_wp2_with fail
       go_roundw
       case rel=>(repeat apply Exists.intro); exact ⟨⟨k+1,by omega,by go_num,HZ⟩,rfl⟩
       case measure=>simp [intOf]; omega
     obtain rfl:k=14:=by omega
     go_wp2_with fail
     go_roundw
     case rel=>exact ⟨i+1,by omega,by go_num,HQ2⟩
     case measure=>simp [intOf]; omega
   obtain rfl:i=14:=by omega
   go_wp2_with fail
   go_loopw [8] (fun kv wr=>∃ k:Nat,k≤6∧kv=.int .u8 (k:Int)∧Hid (Ok wr1 [] wr)) (fun kv _=>6 - (intOf kv).toNat)
   case atStart=>exact ⟨0,by omega,rfl,HQ⟩
   case round =>
    obtain ⟨kd,hkd,rfl,HQ3⟩:=hrel
    obtain ⟨wr3,rfl⟩:∃ wr3:World,wr3=wr:=⟨_,rfl⟩
    clear HQ
    by_cases hkl:(kd:Int)<6
    ·go_wp2_with fail
     go_loopw [9] (fun nv wr=>∃ n:Int,-2≤n∧n≤9∧nv=.int .i64 n∧Hid (Ok wr1 [] wr)) (fun nv _=>(9 - intOf nv).toNat)
     case atStart=>exact ⟨-2,by omega,by omega,rfl,HQ3⟩
     case round =>
      obtain ⟨n,hlo,hup,rfl,HQ4⟩:=hrel
      obtain ⟨wr4,rfl⟩:∃ wr4:World,wr4=wr:=⟨_,rfl⟩
      clear HQ3
      by_cases hnl:n<9
      ·go_wp2_with fail
       refine cM (bQ kd n ⟨#[]⟩ wr4 (by omega) (by omega) (HE1.out.below HQ4.out.bel)) HQ4 fun w5 H5=>?_
       clear HQ4
       go_wp2_with fail
       refine cM (bQ kd 0 ⟨#[97,34,98]⟩ w5 (by decide) (by decide) (HE1.out.below H5.out.bel)) H5 fun w6 H6=>?_
       clear H5
       go_wp2_with fail
       refine cM (bQ kd (n * 12345) ⟨#[]⟩ w6 (by omega) (by omega) (HE1.out.below H6.out.bel)) H6 fun w7 H7=>?_
       clear H6
       go_wp2_with fail
       go_roundw
       case rel=>exact ⟨n+1,by omega,by omega,by go_num,H7⟩
       case measure=>simp [intOf]; omega
      obtain rfl:n=9:=by omega
      go_wp2_with fail
      go_roundw
      case rel=>exact ⟨kd+1,by omega,by go_num,HQ4⟩
      case measure=>simp [intOf]; omega
    obtain rfl:kd=6:=by omega
    obtain ⟨i1,hi1,hy0,hy1,hy2⟩:=info_parts lx
    obtain ⟨w8,hmk,hown,hgr⟩:=run_makeSlice_full (P:=prog) (w:=wr3) wr3.heap.size 32 5 i1 (.int .u8 0) 1 underlying32 hi1 hy0 hy1 .i64 .i64 257 (by omega) (by rw [hy2]; omega) (by unfold maxLen; omega) (Nat.le_refl _)
    rw [vo] at hown
    rw [show ((257:Nat):Int)=257 from rfl] at hmk
    have HB:=Lib.hid (show Below wr3.heap.size wr3 w8 from ⟨hgr.os,hgr.tape,hgr.output,hgr.size,fun k hk=>hgr.block k hk (by simp)⟩)
    have HO:=Lib.hid hown
    clear hi1 hy0 hy1 hy2 hown hgr
    go_wp2_with fail
    clear hmk
    obtain ⟨gg,hg⟩:=ex (wr3.heap.size)
    rw [hg] at HO HB ⊢
    go_loopw [11] (fun jv wr=>∃ (j:Nat),j≤257∧jv=.int .i64 (j:Int)∧Hid (wr.ownsRow gg 5 1 (.slice (some ⟨gg,0,none⟩) 257 257) 257 (au (jz j)))∧Hid (Below gg wr3 wr)) (fun jv _=>257 - (intOf jv).toNat)
    case atStart=>exact ⟨0,Nat.zero_le _,rfl,HO,HB⟩
    case round =>
     clear HO HB
     obtain ⟨j,hj,rfl,HO,HB⟩:=hrel
     obtain ⟨wy,rfl⟩:∃ wy:World,wy=wr:=⟨_,rfl⟩
     by_cases hjl:(j:Int)<257
     ·have hj2:j<257:=by omega
      have hc:=HO.out.cellAt j (by omega)
      rw [AP hj2] at hc
      have hfz:=HO.out.frozenAt j
      have HO2:=Lib.hid (show (wy.setCell ⟨gg,j,none⟩ (.int .u8 120)).ownsRow gg 5 1 (.slice (some ⟨gg,0,none⟩) 257 257) 257 (au (jz (j+1))) by rw [← xU hj2]; exact (HO.out.stored j (.int .u8 120)).1)
      have HB2:=Lib.hid (HB.out.setCell (p:=⟨gg,j,none⟩) (Nat.le_refl gg) (.int .u8 120))
      clear HO HB
      go_wp2_with fail
      go_roundw
      case rel=>exact ⟨j+1,by omega,by go_num,HO2,HB2⟩
      case measure=>simp [intOf]; omega
     obtain rfl:j=257:=by omega
     have H0:=Lib.hid ((HQ3.out.below (hg▸HB.out)).add (aK gg 5 1 (.slice (some ⟨gg,0,none⟩) 257 257) 257 (au (jz 257))) HO.out)
     clear HO HB hg HQ3 hj
     have CV:=keep (fun (W:World) (h:Ok wr1 [aK gg 5 1 (.slice (some ⟨gg,0,none⟩) 257 257) 257 (au (jz 257))] W) (m:Nat) (hm:m≤257)=>uz (h.get _ (List.mem_cons_self ..)) m hm)
     have e1:=CV.out wy H0.out 256 (by decide)
     obtain ⟨X,hX⟩:∃ X:ByteArray,(⟨(List.replicate 256 120).toArray⟩:ByteArray)=X:=⟨_,rfl⟩
     rw [hX] at e1
     have HX:=keep hX
     clear hX
     go_wp2_with fail
     have H1:=Lib.hid (H0.out.alloc wy.heap.size 23 [.int .u8 3,.int .i64 0,.string X] rfl)
     obtain ⟨gv,hgv⟩:=ex (wy.heap.size)
     rw [hgv] at H1 ⊢
     generalize wy.alloc (.cells #[.int .u8 3,.int .i64 0,.string X] 23)=wA at H1 ⊢
     clear e1 H0 hgv
     refine cM (bQ 3 0 X wA (by decide) (by decide) (HE1.out.below H1.out.bel)) H1 fun w9 H2=>?_
     clear H1
     have e2:=CV.out w9 (H2.out.drop [aK gg 5 1 (.slice (some ⟨gg,0,none⟩) 257 257) 257 (au (jz 257))] (by simp)) 257 (by decide)
     obtain ⟨X2,hX⟩:∃ X:ByteArray,(⟨(List.replicate 257 120).toArray⟩:ByteArray)=X:=⟨_,rfl⟩
     rw [hX] at e2
     have HX2:=keep hX
     clear hX
     go_wp2_with fail
     refine (bQ 3 0 X2 w9 (by decide) (by decide) (HE1.out.below H2.out.bel)).mono ?_
     rintro e w10 ⟨rfl,hb⟩
     have H3:=Lib.hid (H2.out.below hb)
     clear hb H2 e2
     go_wp2_with fail
     refine cM (bQ 1 9223372036854775807 ⟨#[]⟩ w10 (by decide) (by decide) (HE1.out.below H3.out.bel)) H3 fun w11 H4=>?_
     clear H3
     have F4:=sE H4
     go_wp2_with fail
     clear F4
     refine (fQ (ai.of_new H4.out ((Below.refl _ _).alloc (Nat.le_refl _) _) (World.ownsRow_lit (base:=w11.heap.size) (e:=27) (size:=11) w11 #[.int .u8 1,.int .u8 3,.int .i64 0,.string X,.int .i64 0,.int .i64 0,.int .i64 0,.int .i64 0,.int .i64 0,.int .u8 0,.int .i64 0] 1 (Nat.le_refl _) (by decide) rfl)) HE1.out [vN (List.replicate 256 120)] rfl (gO (z7 (by rw [List.length_replicate]; decide))) (by rw [← HX.out]; rfl)).mono ?_
     rintro e w12 ⟨rfl,hb⟩
     have H5:=Lib.hid ((H4.out.alloc_obj _).below hb)
     clear hb H4
     have e3:=CV.out w12 (H5.out.drop [aK gg 5 1 (.slice (some ⟨gg,0,none⟩) 257 257) 257 (au (jz 257))] (by simp)) 254 (by decide)
     obtain ⟨X3,hX⟩:∃ X:ByteArray,(⟨(List.replicate 254 120).toArray⟩:ByteArray)=X:=⟨_,rfl⟩
     rw [hX] at e3
     have HX3:=keep hX
     clear hX
     go_wp2_with fail
     clear e3
     refine (fQ (ai.of_new H5.out ((Below.refl _ _).alloc (Nat.le_refl _) _) (World.ownsRow_lit (base:=w12.heap.size) (e:=27) (size:=11) w12 #[.int .u8 1,.int .u8 3,.int .i64 0,.string X3,.int .i64 0,.int .i64 0,.int .i64 0,.int .i64 0,.int .i64 0,.int .u8 0,.int .i64 0] 1 (Nat.le_refl _) (by decide) rfl)) HE1.out [vN (List.replicate 254 120)] rfl (gO (z7 (by rw [List.length_replicate]; decide))) (by rw [← HX3.out]; rfl)).mono ?_
     rintro e w13 ⟨rfl,hb⟩
     have H6:=Lib.hid ((H5.out.alloc_obj _).below hb)
     clear hb H5
     go_wp2_with fail
     refine cM (gQ _ (HE1.out.below H6.out.bel)) H6 fun w14 H7=>?_
     clear H6
     go_wp2_with fail
     go_ret
     exact ⟨rfl,an HB1.out H7.out.bel⟩
theorem jk (w:World) (hL:laidMetH prog Rows.showExamplesRow.laid w) (hS:w.ShapedOpen prog) :
  Calls prog 3 #[] w fun e w'=>e=.returned (.bool true)∧Below w.heap.size w w' :=
 ke w (uM hL hS (by kernel_rfl) (by kernel_rfl))
