/- The reference: the first entry at fault (louvreref11.fault, Check). EntryChecks: the walk. -/
import Derived.Test.YtdplcdhpnmcdjaaGreatDoorKCsA
import Derived.Test.YtdplcdhpnmcdjaaGreatDoorKTg
import Derived.Test.YtdplcdhpnmcdjaaGreatDoorKEng
import Derived.Test.YtdplcdhpnmcdjaaGreatDoorKAddrP
import Derived.Test.YtdplcdhpnmcdjaaGreatDoorKR8E
import Derived.Test.YtdplcdhpnmcdjaaGreatDoorKParP
namespace Go.Proofs.YtdplcdhpnmcdjaaGreatDoor
set_option maxRecDepth 100000
set_option maxHeartbeats 8000000
open Go.RowKit Go.Proofs.Tryz
theorem BN (l:List En3) (a:Option Addr) (c:Nat) (i:Nat) (w:World) (hl:l.length≤100000) (hi:i<l.length) (hz:∀ x∈l,x.inp.length≤100000) (hr:bi w a 3 (l.map r5)) :
  Calls prog 46 #[.slice a l.length c,.int .i64 (i:Int)] w fun e w'=>e=.returned (.int .i64 (zv l i))∧Below w.heap.size w w':=by
 have HR:=keep hr
 obtain ⟨x,hx⟩:∃ x,l[i]?=some x:=⟨_,List.getElem?_eq_getElem hi⟩
 have hxs:=hz x (List.mem_of_getElem? hx)
 obtain ⟨n,hn⟩:=ex (l.length)
 rw [hn] at hl hi ⊢
 have HN:=keep hn
 obtain ⟨b1,o1,ha,hB,hc⟩:=z7 hr (i:=i) (r:=r5 x) (by rw [List.getElem?_map,hx]; rfl)
 subst ha
 have hcl:=qX (w:=w) (b:=b1) (o:=o1+i * 3) (r5 x) hc
 have HFA:=keep (show zv l i=AK (Aw l i) x by unfold zv; rw [hx])
 have HPV:=keep (fun (h:0<i)=>show ∃ y,l[i - 1]?=some y from ⟨_,List.getElem?_eq_getElem (by omega)⟩)
 have HP0:=keep (show i=0→Aw l i=none from fun h=>by unfold Aw; rw [if_pos h])
 have HP1:=keep (show 0<i→Aw l i=l[i - 1]? from fun h=>by unfold Aw; rw [if_neg (by omega)])
 obtain ⟨xc,xr,xi⟩:=x
 obtain ⟨X,hX⟩:∃ X:ByteArray,⟨xi.toArray⟩=X:=⟨_,rfl⟩
 unfold r5 at hcl
 dsimp only at hcl hxs
 rw [hX] at hcl
 have HX:=keep hX
 have HOF:=keep (fun W=>Dx X (by rw [← hX]; show xi.toArray.size≤_; rw [List.size_toArray]; omega) W)
 rw [show X.data.toList=xi by rw [← hX]] at HOF
 obtain ⟨V,hV⟩:=ex (zv l i)
 rw [hV]
 have HFV:=keep (hV.symm.trans HFA.out)
 have hin:(i:Int)<(n:Int):=by omega
 clear hx hc hX hz hr hn HFA hV hxs
 have H0:=Lib.hid ((Ok.start w).add (ae b1 (o1+i * 3) [.int .i64 xc,.int .i64 xr,.string X]) ⟨hB,hcl⟩)
 have HB1:=Lib.hid hB
 clear hcl hB
 go_enter func46,ntmps46
 go_upto_region 1 with fail
 have F1:=sE H0
 go_wp2_with fail
 refine cM (Ax xc xr _) H0 fun w6 H8=>?_
 clear F1 H0
 obtain ⟨vb,hvb⟩:=ex (ba xc xr)
 rw [hvb]
 have HVB:=keep hvb
 clear hvb
 have F2:=sE H8
 cases vb
 ·have HF:=keep (show V=3 by rw [HFV.out]; unfold AK; rw [if_pos HVB.out])
  go_wp2_with fail
  exact bodyPost_ret (v:=.int .i64 3) (by simp [results,results46,go_sem]) rfl ⟨by rw [HF.out],H8.out.bel⟩
 by_cases hi0:i=0
 ·have HI0:=keep (HP0.out hi0)
  have hi0i:decide ((0:Int)<(i:Int))=false:=decide_eq_false (by omega)
  have hi0n:decide (0<i)=false:=decide_eq_false (by omega)
  have hi0g:decide ((i:Int)>0)=false:=decide_eq_false (by omega)
  clear hi0
  go_upto_region 3 with fail
  refine wp_region_held_drew (S:=fun W=>Ok w [ae b1 (o1+i * 3) [.int .i64 xc,.int .i64 xr,.string X]] W) (by kernel_rfl) H8.out.drew (fun hHeld => ?_)
  refine wt3 0 ?_
  refine wt3 1 ?_
  refine wt3 2 ?_
  refine wsk 3 ?_
  refine wsk 4 ?_
  refine wsk 5 ?_
  refine wsk 6 ?_
  refine wsk 7 ?_
  refine wsk 8 ?_
  refine wsk 9 ?_
  refine wsk 10 ?_
  refine wsk 11 ?_
  refine wsk 12 ?_
  refine wsk 13 ?_
  refine wsk 14 ?_
  refine wsk 15 ?_
  refine wt3 16 ?_
  refine wpAnyH_done (by kernel_rfl) ?_ _
  clear F2
  clear H8
  have H4:=Lib.hid hHeld
  clear hHeld
  have F5:=sE H4
  have HFE:=keep (show V=if xi=[] then 2 else (aV xi).2.2 by rw [HFV.out]; unfold AK; rw [if_neg (by rw [HVB.out]; decide),if_neg (by rw [HI0.out]; simp)])
  by_cases hxi:xi=[]
  ·have hxe:X.toList.isEmpty=true:=by rw [toL,← HX.out,hxi]; rfl
   have HF:=keep (show V=2 by rw [HFE.out,if_pos hxi])
   clear hxi
   go_wp2_with fail
   exact bodyPost_ret (v:=.int .i64 2) (by simp [results,results46,go_sem]) rfl ⟨by rw [HF.out],H4.out.bel⟩
  have hxe:X.toList.isEmpty=false:=by rw [← HX.out,ByteArray.toList_mk]; cases xi with | nil=>exact absurd rfl hxi | cons _ _=>rfl
  have HF:=keep (show V=(aV xi).2.2 by rw [HFE.out,if_neg hxi])
  obtain ⟨E,hE⟩:=ex ((aV xi).2.2)
  unfold Cs at HOF
  rw [hE] at HOF HF
  clear hxi hE
  go_wp2_with fail
  refine (HOF.out _).mono ?_
  rintro e w6 ⟨mf,ma,mn,at_,mt,ta,tn,tc,rfl,hb7⟩
  clear F5
  have H8:=Lib.hid (H4.out.below hb7)
  clear hb7 H4
  have F9:=H8.out.sees
  simp only [sees,ae,ag,Nat.add_zero,Nat.reduceAdd] at F9
  obtain ⟨⟨z0,c00,c01,c02,-⟩,-⟩:=F9
  go_upto_region 8 with fail
  have y10:=z0
  clear z0 c00 c01 c02
  have H11:=Lib.hid (H8.out.var w6.heap.size 65 [.bool mf,.int .u8 (ma:Nat),.int .i64 mn,.string mt,.slice ta tn tc] rfl)
  clear H8
  generalize (w6.alloc (.cells #[.bool mf,.int .u8 (ma:Nat),.int .i64 mn,.string mt,.slice ta tn tc] 65))=W12 at H11 ⊢
  have F13:=sE H11
  go_wp2_with fail
  exact bodyPost_ret (v:=.int .i64 E) (by simp [results,results46,go_sem]) rfl ⟨by rw [HF.out],H11.out.bel⟩
 have hip:0<i:=by omega
 obtain ⟨y,hy⟩:=HPV.out hip
 obtain ⟨i1,hi1⟩:=ex (i - 1)
 rw [hi1] at hy
 have HPY:=keep (show Aw l i=some y by rw [HP1.out hip,hi1,hy])
 obtain ⟨b2,o2,ha2,hB2,hc2⟩:=z7 (HR.out.below H8.out.bel) (i:=i1) (r:=r5 y) (by rw [List.getElem?_map,hy]; rfl)
 injection ha2 with ha2
 injection ha2 with ha3 ha4 ha5
 subst ha3 ha4
 clear ha5
 have hcl2:=qX (w:=w6) (b:=b1) (o:=o1+i1 * 3) (r5 y) hc2
 obtain ⟨pc,pr,pi⟩:=y
 have hi0i:(0:Int)<(i:Int):=by omega
 have hi0n:decide (0<i)=true:=decide_eq_true hip
 have hi1w:(i:Int) - 1=(i1:Int):=by omega
 have hi1n:(i1:Int)<(n:Int):=by omega
 have hi1x:IntKind.i64.wrap (i1:Int)=(i1:Int):=Go.IntWalk.i64_in _ (by omega)
 clear F2
 have H3:=Lib.hid (H8.out.add (ae b1 (o1+i1 * 3) [.int .i64 pc,.int .i64 pr,.string ⟨pi.toArray⟩]) ⟨hB2,hcl2⟩)
 clear H8 hcl2 hc2 hB2 hy hi1 hi0 hip
 have F4:=sE H3
 obtain ⟨lb,hlb⟩:=ex (zV pc pr xc xr)
 have HLB:=keep hlb
 clear hlb
 cases lb
 ·go_upto_region 3 with fail
  refine wp_region_held_drew (S:=fun W=>Ok w [ae b1 (o1+i1 * 3) [.int .i64 pc,.int .i64 pr,.string ⟨pi.toArray⟩],ae b1 (o1+i * 3) [.int .i64 xc,.int .i64 xr,.string X]] W) (by kernel_rfl) H3.out.drew (fun hHeld => ?_)
  refine wt3 0 ?_
  refine wt3 1 ?_
  refine wt3 2 ?_
  refine wt3 3 ?_
  refine wt3 4 ?_
  refine wt3 5 ?_
  refine wt3 6 ?_
  refine wt3 7 ?_
  refine wt3 8 ?_
  refine wt3 9 ?_
  refine wt3 10 ?_
  refine wt3 11 ?_
  refine wt3 12 ?_
  refine wt3 13 ?_
  refine wal 14 fun K hK => ?_
  go_simp
  refine (BS pc pr xc xr _).mono ?_
  rintro e w6 ⟨rfl,hb7⟩
  rw [HLB.out]
  go_wp2_with fail
  refine hK.out _ _ (hHeld.below hb7) (fun hHeld => ?_)
  clear hK K
  refine wn ?_
  refine wt3 15 ?_
  refine wt3 16 ?_
  refine wpAnyH_done (by kernel_rfl) ?_ _
  clear F4
  clear H3
  have H8:=Lib.hid hHeld
  clear hHeld
  have F9:=sE H8
  have HF:=keep (show V=12 by rw [HFV.out]; unfold AK; rw [if_neg (by rw [HVB.out]; decide),if_pos (by rw [HPY.out,Option.map_some,HLB.out])])
  go_wp2_with fail
  exact bodyPost_ret (v:=.int .i64 12) (by simp [results,results46,go_sem]) rfl ⟨by rw [HF.out],H8.out.bel⟩
 go_upto_region 3 with fail
 refine wp_region_held_drew (S:=fun W=>Ok w [ae b1 (o1+i1 * 3) [.int .i64 pc,.int .i64 pr,.string ⟨pi.toArray⟩],ae b1 (o1+i * 3) [.int .i64 xc,.int .i64 xr,.string X]] W) (by kernel_rfl) H3.out.drew (fun hHeld => ?_)
 refine wt3 0 ?_
 refine wt3 1 ?_
 refine wt3 2 ?_
 refine wt3 3 ?_
 refine wt3 4 ?_
 refine wt3 5 ?_
 refine wt3 6 ?_
 refine wt3 7 ?_
 refine wt3 8 ?_
 refine wt3 9 ?_
 refine wt3 10 ?_
 refine wt3 11 ?_
 refine wt3 12 ?_
 refine wt3 13 ?_
 refine wal 14 fun K hK => ?_
 go_simp
 refine (BS pc pr xc xr _).mono ?_
 rintro e w6 ⟨rfl,hb7⟩
 rw [HLB.out]
 go_wp2_with fail
 refine hK.out _ _ (hHeld.below hb7) (fun hHeld => ?_)
 clear hK K
 refine wn ?_
 refine wt3 15 ?_
 refine wt3 16 ?_
 refine wpAnyH_done (by kernel_rfl) ?_ _
 clear F4
 clear H3
 have H8:=Lib.hid hHeld
 clear hHeld
 have F9:=sE H8
 have HFE:=keep (show V=if xi=[] then 2 else (aV xi).2.2 by rw [HFV.out]; unfold AK; rw [if_neg (by rw [HVB.out]; decide),if_neg (by rw [HPY.out,Option.map_some,HLB.out]; simp)])
 by_cases hxi:xi=[]
 ·have hxe:X.toList.isEmpty=true:=by rw [toL,← HX.out,hxi]; rfl
  have HF:=keep (show V=2 by rw [HFE.out,if_pos hxi])
  clear hxi
  go_wp2_with fail
  exact bodyPost_ret (v:=.int .i64 2) (by simp [results,results46,go_sem]) rfl ⟨by rw [HF.out],H8.out.bel⟩
 have hxe:X.toList.isEmpty=false:=by rw [← HX.out,ByteArray.toList_mk]; cases xi with | nil=>exact absurd rfl hxi | cons _ _=>rfl
 have HF:=keep (show V=(aV xi).2.2 by rw [HFE.out,if_neg hxi])
 obtain ⟨E,hE⟩:=ex ((aV xi).2.2)
 unfold Cs at HOF
 rw [hE] at HOF HF
 clear hxi hE
 go_wp2_with fail
 refine (HOF.out _).mono ?_
 rintro e w10 ⟨mf,ma,mn,at_,mt,ta,tn,tc,rfl,hb11⟩
 clear F9
 have H12:=Lib.hid (H8.out.below hb11)
 clear hb11 H8
 have F13:=H12.out.sees
 simp only [sees,ae,ag,Nat.add_zero,Nat.reduceAdd] at F13
 obtain ⟨⟨z0,c00,c01,c02,-⟩,⟨z1,c10,c11,c12,-⟩,-⟩:=F13
 go_upto_region 8 with fail
 have y14:=z0
 have y15:=z1
 clear z0 c00 c01 c02 z1 c10 c11 c12
 have H16:=Lib.hid (H12.out.var w10.heap.size 65 [.bool mf,.int .u8 (ma:Nat),.int .i64 mn,.string mt,.slice ta tn tc] rfl)
 clear H12
 generalize (w10.alloc (.cells #[.bool mf,.int .u8 (ma:Nat),.int .i64 mn,.string mt,.slice ta tn tc] 65))=W17 at H16 ⊢
 have F18:=sE H16
 go_wp2_with fail
 exact bodyPost_ret (v:=.int .i64 E) (by simp [results,results46,go_sem]) rfl ⟨by rw [HF.out],H16.out.bel⟩
theorem BM (l:List En3) (a:Option Addr) (c:Nat) (w:World) (hl:l.length≤100000) (hz:∀ x∈l,x.inp.length≤100000) (hr:bi w a 3 (l.map r5)) :
  Calls prog 21 #[.slice a l.length c] w fun e w'=>e=.returned (.tuple #[.int .i64 (AS l).1,.int .i64 (AS l).2])∧Below w.heap.size w w':=by
 have HFT:=keep (fun i (hi:i<l.length) W (h:Below w.heap.size w W)=>BN l a c i W hl hi hz (hr.below h))
 obtain ⟨V,hV⟩:=ex (AS l)
 have HAT:=keep (fun i h1 h2 h3=>(Db (l:=l) (i:=i) h1 h2 h3).symm.trans hV)
 have HNO:=keep (fun h=>(Bu (l:=l) h).symm.trans hV)
 rw [hV]
 obtain ⟨n,hn⟩:=ex (l.length)
 rw [hn] at hl HFT ⊢
 have HN:=keep hn
 clear hr hV hn hz
 have H0:=Lib.hid (Ok.start w)
 go_enter func21,ntmps21
 go_wp2_with fail
 go_loopw [4] (fun iv wr=>∃ i:Nat,i≤n∧iv=.int .i64 (i:Int)∧ao (∀ j,j<i→zv l j=0)∧Hid (Ok w [] wr)) (fun iv _=>n - (intOf iv).toNat)
 case atStart=>exact ⟨0,Nat.zero_le _,rfl,keep (fun j h=>by omega),H0⟩
 case round =>
  clear H0
  obtain ⟨i,hi,rfl,HJ,HQ⟩:=hrel
  obtain ⟨wq,rfl⟩:∃ wq:World,wq=wr:=⟨_,rfl⟩
  by_cases hlt:(i:Int)<(n:Int)
  ·have HI:=keep (show i<l.length by rw [HN.out]; omega)
   have hin:i<n:=by omega
   obtain ⟨f,hf⟩:=ex (zv l i)
   have HF:=keep (HFT.out i hin)
   rw [hf] at HF
   have HFV:=keep hf
   clear hf
   go_wp2_with fail
   refine cM (HF.out wq HQ.out.bel) HQ fun w1 H1=>?_
   clear HQ
   by_cases h0:f=0
   ·subst h0
    have HN2:=keep (show ∀ j,j<i+1→zv l j=0 from fun j hj=>if h:j<i then HJ.out j h else (show i=j by omega)▸HFV.out)
    go_wp2_with fail
    go_roundw
    case rel=>exact ⟨i+1,by omega,by go_num,HN2,H1⟩
    case measure=>simp [intOf]; omega
   have hfb:(f != 0)=true:=bne_iff_ne.2 h0
   have HV:=keep (HAT.out i HI.out HJ.out (by rw [HFV.out]; exact h0))
   rw [HFV.out] at HV
   clear h0
   go_wp2_with fail
   exact bodyPost_ret (v:=.tuple #[.int .i64 (i:Int),.int .i64 f]) (by simp [results,results21,go_sem]) rfl ⟨by rw [← HV.out],H1.out.bel⟩
  obtain rfl:i=n:=by omega
  have HV:=keep (HNO.out (by rw [HN.out]; exact HJ.out))
  go_wp2_with fail
  exact bodyPost_ret (v:=.tuple #[.int .i64 0,.int .i64 0]) (by simp [results,results21,go_sem]) rfl ⟨by rw [← HV.out],HQ.out.bel⟩
set_option maxRecDepth 100000
set_option maxHeartbeats 8000000
theorem Cf:(prog.info? 48).map (fun i=>(i.zero,i.size,i.bytes))=some (some (.agg #[.int .i64 0,.int .i64 0,.string ⟨#[]⟩]),3,32):=by kernel_rfl
theorem Eo (l:List En3):(l.flatMap r5).length=l.length * 3:=by
 induction l with
 | nil=>rfl
 | cons x l ih=>rw [List.flatMap_cons,List.length_append,ih,List.length_cons,Nat.succ_mul,Nat.add_comm]; rfl
theorem Ep (l:List En3):∀ u∈l.flatMap r5,u.oneCell'=true:=by
 intro u hu
 obtain ⟨t,-,ht⟩:=List.mem_flatMap.1 hu
 unfold r5 at ht
 simp at ht
 rcases ht with rfl | rfl | rfl <;> rfl
theorem Ca (l:List En3) (a b:Option Addr) (c d:Nat) (w:World) (ha:bi w a 3 (l.map r5)) (hb:bi w b 3 (l.map r5)) (hl:l.length≤100000) :
  Calls prog 22 #[.slice a l.length c,.slice b l.length d] w fun e w'=>e=.returned (.bool true)∧Below w.heap.size w w':=by
 have HA:=keep ha
 have HB:=keep hb
 clear ha hb
 obtain ⟨n,hn⟩:=ex (l.length)
 rw [hn] at hl ⊢
 have HN:=keep hn
 clear hn
 have H0:=Lib.hid (Ok.start w)
 go_enter func22,ntmps22
 go_wp2_with fail
 go_loopw [5] (fun i wr=>∃ k:Nat,k≤n∧i=.int .i64 (k:Int)∧Hid (Ok w [] wr)) (fun i _=>n - (intOf i).toNat)
 case atStart=>exact ⟨0,Nat.zero_le _,rfl,H0⟩
 case round =>
  clear H0
  obtain ⟨j,hj,rfl,HQ⟩:=hrel
  obtain ⟨wp,rfl⟩:∃ wp:World,wp=wr:=⟨_,rfl⟩
  by_cases hlt:(j:Int)<n
  ·have hil:j<l.length:=by rw [HN.out]; omega
   obtain ⟨x,hx⟩:∃ x,l[j]?=some x:=⟨_,List.getElem?_eq_getElem hil⟩
   obtain ⟨b1,o1,ha1,hB1,hc1⟩:=z7 (HA.out.below HQ.out.bel) (i:=j) (r:=r5 x) (by rw [List.getElem?_map,hx]; rfl)
   obtain ⟨b2,o2,hb2,hB2,hc2⟩:=z7 (HB.out.below HQ.out.bel) (i:=j) (r:=r5 x) (by rw [List.getElem?_map,hx]; rfl)
   subst ha1 hb2
   have q1:=qX (w:=wp) (b:=b1) (o:=o1+j * 3) (r5 x) hc1
   have q2:=qX (w:=wp) (b:=b2) (o:=o2+j * 3) (r5 x) hc2
   obtain ⟨xc,xr,xi⟩:=x
   clear hil hx hc1 hc2
   have H1:=Lib.hid ((HQ.out.add (ae b1 (o1+j * 3) [.int .i64 xc,.int .i64 xr,.string ⟨xi.toArray⟩]) ⟨hB1,q1⟩).add (ae b2 (o2+j * 3) [.int .i64 xc,.int .i64 xr,.string ⟨xi.toArray⟩]) ⟨hB2,q2⟩)
   clear q1 q2 hB1 hB2
   go_upto_region 6 with fail
   refine wp_region_held_drew (S:=fun W=>Ok w [ae b2 (o2+j * 3) [.int .i64 xc,.int .i64 xr,.string ⟨xi.toArray⟩],ae b1 (o1+j * 3) [.int .i64 xc,.int .i64 xr,.string ⟨xi.toArray⟩]] W) (by kernel_rfl) H1.out.drew (fun hHeld => ?_)
   refine wt3 0 ?_
   refine wt3 1 ?_
   refine wt3 2 ?_
   refine wt3 3 ?_
   refine wt3 4 ?_
   refine wt3 5 ?_
   refine wt3 6 ?_
   refine wt3 7 ?_
   refine wt3 8 ?_
   refine wpAnyH_done (by kernel_rfl) ?_ _
   clear H1
   have H2:=Lib.hid hHeld
   clear hHeld
   have F3:=sE H2
   go_wp2_with fail
   go_roundw
   case rel=>exact ⟨j+1,by omega,by go_num,Lib.hid (H2.out.drop _ (by simp))⟩
   case measure=>simp [intOf]; omega
  obtain rfl:n=j:=by omega
  go_wp2_with fail
  go_ret
  exact ⟨rfl,HQ.out.bel⟩
theorem AD (l:List En3) (a:Option Addr) (c:Nat) (w:World) (hr:bi w a 3 (l.map r5)) (hnc:l.length≤c) (he:dm w) :
  Calls prog 6 #[.slice a l.length c] w fun e w'=>e=.returned (.bool true)∧Below w.heap.size w w':=by
 obtain ⟨i0,hi,hz0,hz1,hz2⟩:=info_parts Cf
 have HE:=keep he
 have HR:=keep hr
 have HKN:=keep (fun W h=>mm W h)
 obtain ⟨n,hn⟩:=ex (l.length)
 rw [hn] at hnc ⊢
 have HN:=keep hn
 clear he hr hn
 have H0:=Lib.hid (Ok.start w)
 go_enter func6,ntmps6
 by_cases h40:(n:Int)>40
 ·go_wp2_with fail
  refine (HKN.out _ HE.out).mono ?_
  rintro e w1 ⟨rfl,hb⟩
  go_wp2_with fail
  go_ret
  exact ⟨rfl,hb⟩
 go_wp2_with fail
 go_loopw [3] (fun iv wr=>∃ i:Nat,i≤n∧iv=.int .i64 (i:Int)∧ao (∀ j x,j<i→l[j]?=some x→x.inp.length≤600)∧wr=w) (fun iv _=>n - (intOf iv).toNat)
 case atStart=>exact ⟨0,Nat.zero_le _,rfl,keep (fun j x h=>by omega),by trivial⟩
 case round =>
  obtain ⟨i,hin,rfl,HJ,hwr⟩:=hrel
  obtain rfl:w=wr:=hwr.symm
  by_cases hlt:(i:Int)<(n:Int)
  ·have hil:i<l.length:=by rw [HN.out]; omega
   obtain ⟨x,hx⟩:∃ x,l[i]?=some x:=⟨_,List.getElem?_eq_getElem hil⟩
   obtain ⟨b1,o1,ha1,hB1,hc1⟩:=z7 HR.out (i:=i) (r:=r5 x) (by rw [List.getElem?_map,hx]; rfl)
   subst ha1
   have q1:=qX (w:=w) (b:=b1) (o:=o1+i * 3) (r5 x) hc1
   have HX:=keep hx
   obtain ⟨xc,xr,xi⟩:=x
   have hsz:(⟨xi.toArray⟩:ByteArray).size=xi.length:=by show xi.toArray.size=_; rw [List.size_toArray]
   clear hil hx hc1
   obtain ⟨X,hX⟩:∃ X:ByteArray,⟨xi.toArray⟩=X:=⟨_,rfl⟩
   unfold r5 at q1
   dsimp only at q1
   rw [hX] at q1 hsz
   clear hX
   have H1:=Lib.hid (H0.out.add (ae b1 (o1+i * 3) [.int .i64 xc,.int .i64 xr,.string X]) ⟨hB1,q1⟩)
   clear q1 hB1
   have F1:=sE H1
   by_cases h600:(X.size:Int)>600
   ·go_wp2_with fail
    refine (HKN.out _ HE.out).mono ?_
    rintro e w1 ⟨rfl,hb⟩
    go_wp2_with fail
    go_ret
    exact ⟨rfl,hb⟩
   have HJ2:=keep (show ∀ j x,j<i+1→l[j]?=some x→x.inp.length≤600 from fun j x hj hx=>by
    by_cases h:j<i
    ·exact HJ.out j x h hx
    obtain rfl:j=i:=by omega
    rw [HX.out] at hx
    cases hx
    show xi.length≤600
    omega)
   go_wp2_with fail
   go_roundw
   case rel=>exact ⟨i+1,by omega,by go_num,HJ2,by trivial⟩
   case measure=>simp [intOf]; omega
  obtain rfl:n=i:=by omega
  have HZ:=keep (show ∀ x∈l,x.inp.length≤100000 from fun x hx=>by
   obtain ⟨j,hj,e⟩:=List.mem_iff_getElem.1 hx
   have:=HJ.out j x (by rw [← HN.out]; exact hj) (by rw [List.getElem?_eq_getElem hj,e])
   omega)
  have hn40:n≤40:=by omega
  clear HJ hlt hin
  have HCL:=keep (Eo l)
  have HONE:=keep (Ep l)
  obtain ⟨P,hP⟩:=ex (AS l)
  have HA:=keep (fun xa xc W (h1:bi W xa 3 (l.map r5)) h2=>By l xa xc W (by rw [HN.out]; omega) h1 h2)
  have HB:=keep (fun W (h:Below w.heap.size w W)=>BM l a c W (by rw [HN.out]; omega) HZ.out (HR.out.below h))
  have HQ:=keep (fun xa xc W (h1:bi W xa 3 (l.map r5)) (h:Below w.heap.size w W)=>Ca l xa a xc c W h1 (HR.out.below h) (by rw [HN.out]; omega))
  rw [hP] at HA HB
  obtain ⟨p1,p2⟩:=P
  dsimp only at HA HB
  rw [HN.out] at HA HB HQ HCL
  clear hP
  go_upto_region 8 with fail
  go_cut [4] (fun v wx=>∃ xa xc,v=.slice xa n xc∧bi wx xa 3 (l.map r5)∧Hid (Ok w [] wx))
  case first =>
   by_cases h0:n=0
   ·subst h0
    have HL0:=keep (List.length_eq_zero_iff.1 HN.out)
    have hap:(Builtin.append_ #[44,44] 44 #[.slice (some ⟨w.heap.size,0,none⟩) 0 0,.slice a 0 c]).run prog (w.alloc (.cells #[] 48))=.ok (.slice (some ⟨w.heap.size,0,none⟩) 0 0) (w.alloc (.cells #[] 48)):=by
     cases a <;> simp [Builtin.append_,run_underlying underlying44,sizeOf,typeInfo,hi,Builtin.lenOf,Builtin.firstCells,loadCells,loadCellsFrom,storeCells]
    go_wp2_with (at_builtin; refine BZ rfl _ _ _ rfl _ _ rfl rfl hap ?_)
    go_meet
    exact ⟨_,_,rfl,fun hne=>absurd (by rw [HL0.out]; rfl) hne,Lib.hid ((Ok.start w).alloc_obj _)⟩
   obtain ⟨b,o,rfl,hB,hc⟩:=HR.out (by intro e; have:=HN.out; rw [List.map_eq_nil_iff.1 e] at this; exact h0 this.symm)
   have HNW:=keep (show ∀ j u,(l.flatMap r5)[j]?=some u→(w.alloc (.cells #[] 48)).cell? ((⟨b,o,none⟩:Addr).add j)=some u from fun j u hu=>by
    obtain ⟨i,x,k,e1,rfl,e3⟩:=CI r5 3 (fun _=>rfl) l j u hu
    have h9:=hc i (r5 x) (by rw [List.getElem?_map,e1]; rfl) k u e3
    refine bn ((Below.refl _ _).alloc (Nat.le_refl _) _) ?_
    rw [← h9]
    congr 1
    unfold Addr.add; split <;> simp_all)
   have HOR:=Lib.hid (an.of_new (Ok.start w) ((Below.refl _ _).alloc (Nat.le_refl _) _) (World.ownsRow_lit (e:=48) (size:=3) w #[] 0 (Nat.le_refl _) (by decide) rfl))
   obtain ⟨xs,hxs⟩:=ex (l.flatMap r5)
   rw [hxs] at HCL HONE HNW
   have HXS:=keep hxs
   clear hc hxs
   go_wp2_with (at_builtin; refine wpList_append_lies _ rfl _ _ _ rfl w.heap.size 48 i0 _ 3 32 underlying44 hi hz0 hz1 hz2 rfl (by omega) _ _ _ rfl HOR.out.own ⟨b,o,none⟩ n c xs rfl HCL.out HNW.out HONE.out (by omega) (by unfold maxLen; omega) (by omega) (by simp) _ rfl ?_; intro g3 cap3 w3 hown3 hgrow3 hat3 hlt3)
   have h9:=HOR.out.appended hown3 hgrow3 hat3
   obtain ⟨xa,xc,hx,-,-,h8⟩:=jV r5 (fun _=>rfl) (v:=.slice (some ⟨g3,0,none⟩) (0+n) cap3) (l:=l) (by have h7:=h9.own; rw [← HXS.out] at h7; exact h7) (by rw [HN.out,Nat.zero_add])
   rw [HN.out] at hx
   obtain ⟨rfl,rfl⟩:some ⟨g3,0,none⟩=xa∧cap3=xc:=by simpa using hx
   go_meet
   exact ⟨_,_,rfl,h8,Lib.hid h9.ok⟩
  obtain ⟨xa,xc,rfl,hrow,HW⟩:=hcut
  have HRW:=keep hrow
  clear hrow
  go_wp2_with fail
  refine (HA.out xa xc _ HRW.out (HE.out.below HW.out.bel).1).mono ?_
  rintro e w2 ⟨rfl,hb⟩
  have H2:=Lib.hid (HW.out.below hb)
  have HRW2:=keep (HRW.out.below hb)
  clear hb HW HRW
  go_wp2_with fail
  refine (HB.out _ H2.out.bel).mono ?_
  rintro e w3 ⟨rfl,hb⟩
  have H3:=Lib.hid (H2.out.below hb)
  have HRW3:=keep (HRW2.out.below hb)
  clear hb H2 HRW2
  go_wp2_with fail
  refine (HQ.out xa xc _ HRW3.out H3.out.bel).mono ?_
  rintro e w4 ⟨rfl,hb⟩
  have H4:=Lib.hid (H3.out.below hb)
  clear hb H3 HRW3
  go_wp2_with fail
  go_ret
  exact ⟨rfl,H4.out.bel⟩
theorem Au (a:Option Addr) (n c:Nat) (l:List En3) (w:World) (hl:l.length=n) (hr:bi w a 3 (l.map r5)) (hnc:n≤c) (hL:laidMetH prog Rows.entryChecksRow.laid w) (hS:w.ShapedOpen prog) :
  Calls prog 6 #[.slice a n c] w fun e w'=>e=.returned (.bool true)∧Below w.heap.size w w':=by
 subst hl
 exact AD l a c w hr hnc (rr hL hS (by kernel_rfl) (by kernel_rfl))
