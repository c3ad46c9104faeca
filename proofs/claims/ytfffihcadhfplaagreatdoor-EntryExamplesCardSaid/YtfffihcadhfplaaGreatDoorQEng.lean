/- entry.Check. entry.Canonical. known of chapter 11. -/
import Derived.Test.YtfffihcadhfplaaGreatDoorQEbp
import Derived.Test.YtfffihcadhfplaaGreatDoorQIterV
import Derived.Test.YtfffihcadhfplaaGreatDoorQVal
import Derived.Test.YtfffihcadhfplaaGreatDoorQTxv
namespace Go.Proofs.YtfffihcadhfplaaGreatDoor
set_option maxRecDepth 100000
set_option maxHeartbeats 8000000
open Go.RowKit
structure En3 where
 c:Int
 r:Int
 inp:List UInt8
def enRow (x:En3):List Value:=[.int .i64 x.c,.int .i64 x.r,.string ⟨x.inp.toArray⟩]
def fauE (p:Option En3) (x:En3):Int :=
 if validN x.c x.r=false then 3
 else if (p.map fun y=>lessS y.c y.r x.c x.r)=some false then 12
 else if x.inp=[] then 2 else (meanS x.inp).2.2
def prvE (l:List En3) (i:Nat):Option En3:=if i=0 then none else l[i - 1]?
def fauAt (l:List En3) (i:Nat):Int:=match l[i]? with
 | none=>0
 | some x=>fauE (prvE l i) x
def chkK (l:List En3):Nat→Nat→Int×Int
 | 0,_=>(0,0)
 | n+1,i=>if fauAt l i≠0 then ((i:Int),fauAt l i) else chkK l n (i+1)
def chkE (l:List En3):Int×Int:=chkK l l.length 0
theorem chk_upto {l:List En3}:∀ i,i≤l.length→(∀ j,j<i→fauAt l j=0)→chkE l=chkK l (l.length - i) i
 | 0,_,_=>rfl
 | i+1,h,hj=>by
  rw [chk_upto i (by omega) fun j hji=>hj j (by omega),show l.length - i=l.length - (i+1)+1 by omega,chkK,if_neg (by rw [hj i (Nat.lt_succ_self i)]; decide)]
theorem chk_at {l:List En3} {i:Nat} (h:i<l.length) (hj:∀ j,j<i→fauAt l j=0) (hi:fauAt l i≠0):chkE l=((i:Int),fauAt l i):=by
 rw [chk_upto i (by omega) hj,show l.length - i=l.length - (i+1)+1 by omega,chkK,if_pos hi]
theorem chk_none {l:List En3} (hj:∀ j,j<l.length→fauAt l j=0):chkE l=(0,0):=by
 rw [chk_upto l.length (Nat.le_refl _) hj,Nat.sub_self]; rfl
theorem entry_Check (l:List En3) (a:Option Addr) (c:Nat) (w:World) (hl:l.length≤100000) (hr:RowsAt w a 3 (l.map enRow)) (hw:Words w) :
  Calls Tryz.prog 18 #[.slice a l.length c] w fun e w'=>e=.returned (.tuple #[.int .i64 (chkE l).1,.int .i64 (chkE l).2])∧Below w.heap.size w w':=by
 have HR:=keep hr
 have HW:=keep hw
 obtain ⟨V,hV⟩:∃ V,chkE l=V:=⟨_,rfl⟩
 have HAT:=keep (fun i h1 h2 h3=>(chk_at (l:=l) (i:=i) h1 h2 h3).symm.trans hV)
 have HNO:=keep (fun h=>(chk_none (l:=l) h).symm.trans hV)
 rw [hV]
 obtain ⟨n,hn⟩:∃ n,l.length=n:=⟨_,rfl⟩
 rw [hn] at hl ⊢
 have HN:=keep hn
 clear hr hw hV hn
 have H0:=Lib.hid (Ok.start w)
 go_enter Tryz.func18,Tryz.ntmps18
 go_wp2_with fail
 go_loopw [11] (fun iv wr=>∃ i:Nat,i≤n∧iv=.int .i64 (i:Int)∧Keep (∀ j,j<i→fauAt l j=0)∧Hid (Ok w [] wr)) (fun iv _=>n - (intOf iv).toNat)
 case atStart=>exact ⟨0,Nat.zero_le _,rfl,keep (fun j h=>by omega),H0⟩
 case round =>
  clear H0
  obtain ⟨i,hi,rfl,HJ,HQ⟩:=hrel
  obtain ⟨wq,rfl⟩:∃ wq:World,wq=wr:=⟨_,rfl⟩
  by_cases hlt:(i:Int)<(n:Int)
  ·have hil:i<l.length:=by rw [HN.out]; omega
   obtain ⟨x,hx⟩:∃ x,l[i]?=some x:=⟨_,List.getElem?_eq_getElem hil⟩
   obtain ⟨b1,o1,ha,hB,hc⟩:=rows_at (HR.out.below HQ.out.bel) (i:=i) (r:=enRow x) (by rw [List.getElem?_map,hx]; rfl)
   subst ha
   have hcl:=cells_of (w:=wq) (b:=b1) (o:=o1+i * 3) (enRow x) hc
   have HFA:=keep (show fauAt l i=fauE (prvE l i) x by unfold fauAt; rw [hx])
   have HPV:=keep (fun (h:0<i)=>show ∃ y,l[i - 1]?=some y from ⟨_,List.getElem?_eq_getElem (by omega)⟩)
   have HP0:=keep (show i=0→prvE l i=none from fun h=>by unfold prvE; rw [if_pos h])
   have HP1:=keep (show 0<i→prvE l i=l[i - 1]? from fun h=>by unfold prvE; rw [if_neg (by omega)])
   have HAX:=keep (HAT.out i hil HJ.out)
   have HNX:=keep (fun (h:fauAt l i=0) j (hj:j<i+1)=>show fauAt l j=0 from by
    by_cases e:j=i
    ·rw [e]; exact h
    ·exact HJ.out j (by omega))
   obtain ⟨xc,xr,xi⟩:=x
   obtain ⟨X,hX⟩:∃ X:ByteArray,⟨xi.toArray⟩=X:=⟨_,rfl⟩
   unfold enRow at hcl
   dsimp only at hcl
   rw [hX] at hcl
   have HX:=keep hX
   have H1:=Lib.hid (HQ.out.add (kCells b1 (o1+i * 3) [.int .i64 xc,.int .i64 xr,.string X]) ⟨hB,hcl⟩)
   have HB1:=Lib.hid (show b1<wq.heap.size from hB)
   clear hx hcl hc hB hil hX
   have F1:=H1.out.sees
   simp only [sees,kCells,cellsFrom,Nat.add_zero,Nat.reduceAdd] at F1
   obtain ⟨⟨z0,c00,c01,c02,-⟩,-⟩:=F1
   go_upto_region 4 with fail
   have y2:=z0
   clear z0 c00 c01 c02
   have H3:=Lib.hid (H1.out.var wq.heap.size 51 [.int .i64 xc,.int .i64 xr,.string X] rfl)
   clear H1
   generalize (wq.alloc (.cells #[.int .i64 xc,.int .i64 xr,.string X] 51))=W4 at H3 ⊢
   have F5:=H3.out.sees
   simp only [sees,kVar,kCells,cellsFrom,Nat.add_zero,cellsAt,Nat.reduceAdd] at F5
   obtain ⟨⟨⟨z0,fz0⟩,c00,c01,c02,-⟩,⟨z1,c10,c11,c12,-⟩,-⟩:=F5
   go_wp2_with fail
   refine (addr_Valid xc xr _).mono ?_
   rintro e w6 ⟨rfl,hb7⟩
   clear z0 fz0 c00 c01 c02 z1 c10 c11 c12
   have H8:=Lib.hid (H3.out.below hb7)
   clear hb7 H3
   obtain ⟨vb,hvb⟩:∃ vb,validN xc xr=vb:=⟨_,rfl⟩
   rw [hvb]
   have HVB:=keep hvb
   clear hvb
   have F9:=H8.out.sees
   simp only [sees,kVar,kCells,cellsFrom,Nat.add_zero,cellsAt,Nat.reduceAdd] at F9
   obtain ⟨⟨⟨z0,fz0⟩,c00,c01,c02,-⟩,⟨z1,c10,c11,c12,-⟩,-⟩:=F9
   cases vb
   ·have HF:=keep (show fauAt l i=3 by rw [HFA.out]; unfold fauE; rw [if_pos HVB.out])
    have hv2:=HAX.out (by rw [HF.out]; decide)
    rw [HF.out] at hv2
    subst hv2
    go_wp2_with fail
    exact bodyPost_ret (v:=.tuple #[.int .i64 (i:Int),.int .i64 3]) (by simp [results,Tryz.results18,go_sem]) rfl ⟨rfl,H8.out.bel⟩
   ·by_cases hi0:i=0
    ·have HI0:=keep hi0
     have hi0i:decide ((0:Int)<(i:Int))=false:=decide_eq_false (by omega)
     have hi0n:decide (0<i)=false:=decide_eq_false (by omega)
     clear hi0
     go_upto_region 6 with fail
     refine wp_region_held_drew (S:=fun W=>Ok w [kVar (wq.heap.size) 51 [.int .i64 xc,.int .i64 xr,.string X],kCells b1 (o1+i * 3) [.int .i64 xc,.int .i64 xr,.string X]] W) (by kernel_rfl) H8.out.drew (fun hHeld => ?_)
     refine wt3 (i:=0) rfl (by assumption) ?_
     refine wt3 (i:=1) rfl (by assumption) ?_
     refine wt3 (i:=2) rfl (by assumption) ?_
     refine wsk (i:=3) rfl (by assumption) ?_
     refine wsk (i:=4) rfl (by assumption) ?_
     refine wsk (i:=5) rfl (by assumption) ?_
     refine wsk (i:=6) rfl (by assumption) ?_
     refine wsk (i:=7) rfl (by assumption) ?_
     refine wsk (i:=8) rfl (by assumption) ?_
     refine wsk (i:=9) rfl (by assumption) ?_
     refine wsk (i:=10) rfl (by assumption) ?_
     refine wsk (i:=11) rfl (by assumption) ?_
     refine wsk (i:=12) rfl (by assumption) ?_
     refine wt3 (i:=13) rfl (by assumption) ?_
     refine wpAnyH_done (by kernel_rfl) ?_ _
     clear z0 fz0 c00 c01 c02 z1 c10 c11 c12
     clear H8
     have H11:=Lib.hid hHeld
     clear hHeld
     have F12:=H11.out.sees
     simp only [sees,kVar,kCells,cellsFrom,Nat.add_zero,cellsAt,Nat.reduceAdd] at F12
     obtain ⟨⟨⟨z0,fz0⟩,c00,c01,c02,-⟩,⟨z1,c10,c11,c12,-⟩,-⟩:=F12
     have HFE:=keep (show fauAt l i=if xi=[] then 2 else (meanS xi).2.2 by rw [HFA.out]; unfold fauE; rw [if_neg (by rw [HVB.out]; decide),if_neg (by rw [HP0.out HI0.out]; simp)])
     clear HFA
     have HFA:=HFE
     by_cases hxi:xi=[]
     ·have HXI:=keep hxi
      have hx0:X=⟨#[]⟩:=by rw [← HX.out,hxi]
      subst hx0
      clear hxi
      have HF:=keep (show fauAt l i=2 by rw [HFA.out]; rw [if_pos HXI.out])
      have hv2:=HAX.out (by rw [HF.out]; decide)
      rw [HF.out] at hv2
      subst hv2
      go_wp2_with fail
      exact bodyPost_ret (v:=.tuple #[.int .i64 (i:Int),.int .i64 2]) (by simp [results,Tryz.results18,go_sem]) rfl ⟨rfl,H11.out.bel⟩
     ·have hxe:X.toList.isEmpty=false:=by rw [← HX.out,ByteArray.toList_mk]; cases xi with | nil=>exact absurd rfl hxi | cons _ _=>rfl
      have HXI:=keep hxi
      clear hxi
      have hof:=fun W hW=>entry_Of X W hW
      rw [show X.data.toList=xi by rw [← HX.out]] at hof
      unfold OfOut at hof
      obtain ⟨R,hR⟩:∃ R,meanS xi=R:=⟨_,rfl⟩
      have HRE:=keep (show (meanS xi).2.2=R.2.2 by rw [hR])
      rw [hR] at hof
      obtain ⟨m,at_,er⟩:=R
      obtain ⟨mf,⟨ma,mn,mt⟩,mtr⟩:=m
      dsimp only at hof HRE
      have HOF:=keep (fun W (hW:Words W)=>(hof W hW).mono (R':=fun e w'=>∃ ta tn tc,e=.returned (.tuple #[.agg #[.bool mf,.int .u8 (ma:Nat),.int .i64 mn,.string ⟨mt.toArray⟩,.slice ta tn tc],.int .i64 at_,.int .i64 er])∧Below W.heap.size W w') (by
       rintro e w' ⟨tv,rfl,g1,g2⟩
       obtain ⟨ta,tc,rfl⟩:=own_len g1
       exact ⟨ta,_,tc,rfl,g2⟩))
      clear hof hR
      go_wp2_with fail
      refine (HOF.out _ (HW.out.below H11.out.bel)).mono ?_
      rintro e w13 ⟨ta,tn,tc,rfl,hb14⟩
      clear z0 fz0 c00 c01 c02 z1 c10 c11 c12
      have H15:=Lib.hid (H11.out.below hb14)
      clear hb14 H11
      have F16:=H15.out.sees
      simp only [sees,kVar,kCells,cellsFrom,Nat.add_zero,cellsAt,Nat.reduceAdd] at F16
      obtain ⟨⟨⟨z0,fz0⟩,c00,c01,c02,-⟩,⟨z1,c10,c11,c12,-⟩,-⟩:=F16
      go_upto_region 11 with fail
      have y17:=z0
      have y18:=z1
      clear z0 fz0 c00 c01 c02 z1 c10 c11 c12
      have H19:=Lib.hid (H15.out.var w13.heap.size 31 [.bool mf,.int .u8 (ma:Nat),.int .i64 mn,.string ⟨mt.toArray⟩,.slice ta tn tc] rfl)
      clear H15
      generalize (w13.alloc (.cells #[.bool mf,.int .u8 (ma:Nat),.int .i64 mn,.string ⟨mt.toArray⟩,.slice ta tn tc] 31))=W20 at H19 ⊢
      have F21:=H19.out.sees
      simp only [sees,kVar,kCells,cellsFrom,Nat.add_zero,cellsAt,Nat.reduceAdd] at F21
      obtain ⟨⟨⟨z0,fz0⟩,c00,c01,c02,c03,c04,-⟩,⟨⟨z1,fz1⟩,c10,c11,c12,-⟩,⟨z2,c20,c21,c22,-⟩,-⟩:=F21
      by_cases her:er=0
      ·subst her
       go_wp2_with fail
       go_roundw
       case rel=>exact ⟨i+1,by omega,by go_num,keep (HNX.out (by rw [HFA.out,if_neg HXI.out,HRE.out])),Lib.hid (H19.out.drop _ (by simp))⟩
       case measure=>simp [intOf]; omega
      ·have hne:=her
       have herb:(er != 0)=true:=by simpa using her
       clear her
       have HF:=keep (show fauAt l i=er by rw [HFA.out]; rw [if_neg HXI.out,HRE.out])
       have hv2:=HAX.out (by rw [HF.out]; exact hne)
       rw [HF.out] at hv2
       subst hv2
       go_wp2_with fail
       exact bodyPost_ret (v:=.tuple #[.int .i64 (i:Int),.int .i64 er]) (by simp [results,Tryz.results18,go_sem]) rfl ⟨rfl,H19.out.bel⟩
    ·have hip:0<i:=by omega
     obtain ⟨y,hy⟩:=HPV.out hip
     obtain ⟨i1,hi1⟩:∃ i1,i - 1=i1:=⟨_,rfl⟩
     rw [hi1] at hy
     have HPY:=keep (show prvE l i=some y by rw [HP1.out hip,hi1,hy])
     obtain ⟨b2,o2,ha2,hB2,hc2⟩:=rows_at (HR.out.below H8.out.bel) (i:=i1) (r:=enRow y) (by rw [List.getElem?_map,hy]; rfl)
     injection ha2 with ha2
     injection ha2 with ha3 ha4 ha5
     subst ha3 ha4
     clear ha5
     have hcl2:=cells_of (w:=w6) (b:=b1) (o:=o1+i1 * 3) (enRow y) hc2
     obtain ⟨pc,pr,pi⟩:=y
     have hi0i:(0:Int)<(i:Int):=by omega
     have hi0n:decide (0<i)=true:=decide_eq_true hip
     have hi1w:(i:Int) - 1=(i1:Int):=by omega
     have hi1n:(i1:Int)<(n:Int):=by omega
     have hi1x:IntKind.i64.wrap (i1:Int)=(i1:Int):=Go.IntWalk.i64_in _ (by omega)
     clear z0 fz0 c00 c01 c02 z1 c10 c11 c12
     have H10:=Lib.hid (H8.out.add (kCells b1 (o1+i1 * 3) [.int .i64 pc,.int .i64 pr,.string ⟨pi.toArray⟩]) ⟨hB2,hcl2⟩)
     clear H8 hcl2 hc2 hB2 hy hi1 hi0 hip
     have F11:=H10.out.sees
     simp only [sees,kVar,kCells,cellsFrom,Nat.add_zero,cellsAt,Nat.reduceAdd] at F11
     obtain ⟨⟨z0,c00,c01,c02,-⟩,⟨⟨z1,fz1⟩,c10,c11,c12,-⟩,⟨z2,c20,c21,c22,-⟩,-⟩:=F11
     obtain ⟨lb,hlb⟩:∃ lb,lessS pc pr xc xr=lb:=⟨_,rfl⟩
     have HLB:=keep hlb
     clear hlb
     cases lb
     ·go_upto_region 6 with fail
      refine wp_region_held_drew (S:=fun W=>Ok w [kCells b1 (o1+i1 * 3) [.int .i64 pc,.int .i64 pr,.string ⟨pi.toArray⟩],kVar (wq.heap.size) 51 [.int .i64 xc,.int .i64 xr,.string X],kCells b1 (o1+i * 3) [.int .i64 xc,.int .i64 xr,.string X]] W) (by kernel_rfl) H10.out.drew (fun hHeld => ?_)
      refine wt3 (i:=0) rfl (by assumption) ?_
      refine wt3 (i:=1) rfl (by assumption) ?_
      refine wt3 (i:=2) rfl (by assumption) ?_
      refine wt3 (i:=3) rfl (by assumption) ?_
      refine wt3 (i:=4) rfl (by assumption) ?_
      refine wt3 (i:=5) rfl (by assumption) ?_
      refine wt3 (i:=6) rfl (by assumption) ?_
      refine wt3 (i:=7) rfl (by assumption) ?_
      refine wt3 (i:=8) rfl (by assumption) ?_
      refine wt3 (i:=9) rfl (by assumption) ?_
      refine wt3 (i:=10) rfl (by assumption) ?_
      refine wal (i:=11) rfl (fun K hK => ?_)
      go_simp
      refine (addr_Less pc pr xc xr _).mono ?_
      rintro e w13 ⟨rfl,hb14⟩
      rw [HLB.out]
      go_wp2_with fail
      refine hK.out _ _ (hHeld.below hb14) (fun hHeld => ?_)
      clear hK K
      try simp only [Act.put,wp1,wp2,wp3,wp4,wp5,wp6]
      refine wt3 (i:=12) rfl (by assumption) ?_
      refine wt3 (i:=13) rfl (by assumption) ?_
      refine wpAnyH_done (by kernel_rfl) ?_ _
      clear z0 c00 c01 c02 z1 fz1 c10 c11 c12 z2 c20 c21 c22
      clear H10
      have H15:=Lib.hid hHeld
      clear hHeld
      have F16:=H15.out.sees
      simp only [sees,kVar,kCells,cellsFrom,Nat.add_zero,cellsAt,Nat.reduceAdd] at F16
      obtain ⟨⟨z0,c00,c01,c02,-⟩,⟨⟨z1,fz1⟩,c10,c11,c12,-⟩,⟨z2,c20,c21,c22,-⟩,-⟩:=F16
      have HF:=keep (show fauAt l i=12 by rw [HFA.out]; unfold fauE; rw [if_neg (by rw [HVB.out]; decide),if_pos (by rw [HPY.out,Option.map_some,HLB.out])])
      have hv2:=HAX.out (by rw [HF.out]; decide)
      rw [HF.out] at hv2
      subst hv2
      go_wp2_with fail
      exact bodyPost_ret (v:=.tuple #[.int .i64 (i:Int),.int .i64 12]) (by simp [results,Tryz.results18,go_sem]) rfl ⟨rfl,H15.out.bel⟩
     ·go_upto_region 6 with fail
      refine wp_region_held_drew (S:=fun W=>Ok w [kCells b1 (o1+i1 * 3) [.int .i64 pc,.int .i64 pr,.string ⟨pi.toArray⟩],kVar (wq.heap.size) 51 [.int .i64 xc,.int .i64 xr,.string X],kCells b1 (o1+i * 3) [.int .i64 xc,.int .i64 xr,.string X]] W) (by kernel_rfl) H10.out.drew (fun hHeld => ?_)
      refine wt3 (i:=0) rfl (by assumption) ?_
      refine wt3 (i:=1) rfl (by assumption) ?_
      refine wt3 (i:=2) rfl (by assumption) ?_
      refine wt3 (i:=3) rfl (by assumption) ?_
      refine wt3 (i:=4) rfl (by assumption) ?_
      refine wt3 (i:=5) rfl (by assumption) ?_
      refine wt3 (i:=6) rfl (by assumption) ?_
      refine wt3 (i:=7) rfl (by assumption) ?_
      refine wt3 (i:=8) rfl (by assumption) ?_
      refine wt3 (i:=9) rfl (by assumption) ?_
      refine wt3 (i:=10) rfl (by assumption) ?_
      refine wal (i:=11) rfl (fun K hK => ?_)
      go_simp
      refine (addr_Less pc pr xc xr _).mono ?_
      rintro e w13 ⟨rfl,hb14⟩
      rw [HLB.out]
      go_wp2_with fail
      refine hK.out _ _ (hHeld.below hb14) (fun hHeld => ?_)
      clear hK K
      try simp only [Act.put,wp1,wp2,wp3,wp4,wp5,wp6]
      refine wt3 (i:=12) rfl (by assumption) ?_
      refine wt3 (i:=13) rfl (by assumption) ?_
      refine wpAnyH_done (by kernel_rfl) ?_ _
      clear z0 c00 c01 c02 z1 fz1 c10 c11 c12 z2 c20 c21 c22
      clear H10
      have H15:=Lib.hid hHeld
      clear hHeld
      have F16:=H15.out.sees
      simp only [sees,kVar,kCells,cellsFrom,Nat.add_zero,cellsAt,Nat.reduceAdd] at F16
      obtain ⟨⟨z0,c00,c01,c02,-⟩,⟨⟨z1,fz1⟩,c10,c11,c12,-⟩,⟨z2,c20,c21,c22,-⟩,-⟩:=F16
      have HFE:=keep (show fauAt l i=if xi=[] then 2 else (meanS xi).2.2 by rw [HFA.out]; unfold fauE; rw [if_neg (by rw [HVB.out]; decide),if_neg (by rw [HPY.out,Option.map_some,HLB.out]; simp)])
      clear HFA
      have HFA:=HFE
      by_cases hxi:xi=[]
      ·have HXI:=keep hxi
       have hx0:X=⟨#[]⟩:=by rw [← HX.out,hxi]
       subst hx0
       clear hxi
       have HF:=keep (show fauAt l i=2 by rw [HFA.out]; rw [if_pos HXI.out])
       have hv2:=HAX.out (by rw [HF.out]; decide)
       rw [HF.out] at hv2
       subst hv2
       go_wp2_with fail
       exact bodyPost_ret (v:=.tuple #[.int .i64 (i:Int),.int .i64 2]) (by simp [results,Tryz.results18,go_sem]) rfl ⟨rfl,H15.out.bel⟩
      ·have hxe:X.toList.isEmpty=false:=by rw [← HX.out,ByteArray.toList_mk]; cases xi with | nil=>exact absurd rfl hxi | cons _ _=>rfl
       have HXI:=keep hxi
       clear hxi
       have hof:=fun W hW=>entry_Of X W hW
       rw [show X.data.toList=xi by rw [← HX.out]] at hof
       unfold OfOut at hof
       obtain ⟨R,hR⟩:∃ R,meanS xi=R:=⟨_,rfl⟩
       have HRE:=keep (show (meanS xi).2.2=R.2.2 by rw [hR])
       rw [hR] at hof
       obtain ⟨m,at_,er⟩:=R
       obtain ⟨mf,⟨ma,mn,mt⟩,mtr⟩:=m
       dsimp only at hof HRE
       have HOF:=keep (fun W (hW:Words W)=>(hof W hW).mono (R':=fun e w'=>∃ ta tn tc,e=.returned (.tuple #[.agg #[.bool mf,.int .u8 (ma:Nat),.int .i64 mn,.string ⟨mt.toArray⟩,.slice ta tn tc],.int .i64 at_,.int .i64 er])∧Below W.heap.size W w') (by
        rintro e w' ⟨tv,rfl,g1,g2⟩
        obtain ⟨ta,tc,rfl⟩:=own_len g1
        exact ⟨ta,_,tc,rfl,g2⟩))
       clear hof hR
       go_wp2_with fail
       refine (HOF.out _ (HW.out.below H15.out.bel)).mono ?_
       rintro e w17 ⟨ta,tn,tc,rfl,hb18⟩
       clear z0 c00 c01 c02 z1 fz1 c10 c11 c12 z2 c20 c21 c22
       have H19:=Lib.hid (H15.out.below hb18)
       clear hb18 H15
       have F20:=H19.out.sees
       simp only [sees,kVar,kCells,cellsFrom,Nat.add_zero,cellsAt,Nat.reduceAdd] at F20
       obtain ⟨⟨z0,c00,c01,c02,-⟩,⟨⟨z1,fz1⟩,c10,c11,c12,-⟩,⟨z2,c20,c21,c22,-⟩,-⟩:=F20
       go_upto_region 11 with fail
       have y21:=z0
       have y22:=z1
       have y23:=z2
       clear z0 c00 c01 c02 z1 fz1 c10 c11 c12 z2 c20 c21 c22
       have H24:=Lib.hid (H19.out.var w17.heap.size 31 [.bool mf,.int .u8 (ma:Nat),.int .i64 mn,.string ⟨mt.toArray⟩,.slice ta tn tc] rfl)
       clear H19
       generalize (w17.alloc (.cells #[.bool mf,.int .u8 (ma:Nat),.int .i64 mn,.string ⟨mt.toArray⟩,.slice ta tn tc] 31))=W25 at H24 ⊢
       have F26:=H24.out.sees
       simp only [sees,kVar,kCells,cellsFrom,Nat.add_zero,cellsAt,Nat.reduceAdd] at F26
       obtain ⟨⟨⟨z0,fz0⟩,c00,c01,c02,c03,c04,-⟩,⟨z1,c10,c11,c12,-⟩,⟨⟨z2,fz2⟩,c20,c21,c22,-⟩,⟨z3,c30,c31,c32,-⟩,-⟩:=F26
       by_cases her:er=0
       ·subst her
        go_wp2_with fail
        go_roundw
        case rel=>exact ⟨i+1,by omega,by go_num,keep (HNX.out (by rw [HFA.out,if_neg HXI.out,HRE.out])),Lib.hid (H24.out.drop _ (by simp))⟩
        case measure=>simp [intOf]; omega
       ·have hne:=her
        have herb:(er != 0)=true:=by simpa using her
        clear her
        have HF:=keep (show fauAt l i=er by rw [HFA.out]; rw [if_neg HXI.out,HRE.out])
        have hv2:=HAX.out (by rw [HF.out]; exact hne)
        rw [HF.out] at hv2
        subst hv2
        go_wp2_with fail
        exact bodyPost_ret (v:=.tuple #[.int .i64 (i:Int),.int .i64 er]) (by simp [results,Tryz.results18,go_sem]) rfl ⟨rfl,H24.out.bel⟩
  ·obtain rfl:i=n:=by omega
   have hv2:=HNO.out (by rw [HN.out]; exact HJ.out)
   subst hv2
   go_wp2_with fail
   exact bodyPost_ret (v:=.tuple #[.int .i64 0,.int .i64 0]) (by simp [results,Tryz.results18,go_sem]) rfl ⟨rfl,HQ.out.bel⟩
set_option maxRecDepth 100000
set_option maxHeartbeats 8000000
noncomputable def canS (l:List UInt8):List UInt8×Int :=
 if (meanS l).2.2≠0 then ([],(meanS l).2.2)
 else if (meanS l).1.f=true then (if (showF ((meanS l).1.t.map Nd.any)).2≠0 then ([],(showF ((meanS l).1.t.map Nd.any)).2) else (61::(showF ((meanS l).1.t.map Nd.any)).1,0))
 else constC (meanS l).1.v.1 (meanS l).1.v.2.1 (meanS l).1.v.2.2
theorem can_err {l:List UInt8} {m:Mn} {a e:Int} (h:meanS l=(m,a,e)) (he:e≠0):canS l=([],e):=by unfold canS; rw [h,if_pos he]
theorem can_const {l:List UInt8} {m:Mn} {a:Int} (h:meanS l=(m,a,0)) (hf:m.f=false):canS l=constC m.v.1 m.v.2.1 m.v.2.2:=by unfold canS; rw [h,if_neg (by simp),if_neg (by show ¬ m.f=true; rw [hf]; decide)]
theorem can_bad {l:List UInt8} {m:Mn} {a:Int} (h:meanS l=(m,a,0)) (hf:m.f=true) (h2:(showF (m.t.map Nd.any)).2≠0):canS l=([],(showF (m.t.map Nd.any)).2):=by unfold canS; rw [h,if_neg (by simp)]; show (if m.f=true then _ else _)=_; rw [if_pos hf,if_pos h2]
theorem can_form {l:List UInt8} {m:Mn} {a:Int} (h:meanS l=(m,a,0)) (hf:m.f=true) (h2:(showF (m.t.map Nd.any)).2=0):canS l=(61::(showF (m.t.map Nd.any)).1,0):=by unfold canS; rw [h,if_neg (by simp)]; show (if m.f=true then _ else _)=_; rw [if_pos hf,if_neg (by rw [h2]; decide)]
theorem nds_own {w:World} {base:Nat} {v:Value} {t:List Nd} (h:w.ownsRow base 96 11 v t.length (ndCells t)):∃ a c,v=.slice a t.length c∧RowsAt w a 11 ((t.map Nd.any).map aRow):=by
 obtain ⟨a,c,h1,-,-,h4⟩:=rows_own ndRow (fun _=>rfl) h rfl
 exact ⟨a,c,h1,by rw [any_rows]; exact h4⟩
theorem can_1 (PT:Option Addr→World→Prop) (s R:ByteArray) (V:Int) (w:World) (f:Bool) (a:Nat) (n1:Int) (t1:List UInt8) (tl:Nat) (at_ er:Int) (HOF:Keep (Calls Tryz.prog 11 #[.string s] w fun e w'=>∃ ta tc,e=.returned (.tuple #[.agg #[.bool f,.int .u8 (a:Nat),.int .i64 n1,.string ⟨t1.toArray⟩,.slice ta tl tc],.int .i64 at_,.int .i64 er])∧PT ta w'∧Below w.heap.size w w')) (he:(er != 0)=true) (HV:Keep (R=⟨#[]⟩∧V=er)) :
  Calls Tryz.prog 12 #[.string s] w fun e w'=>e=.returned (.tuple #[.string R,.int .i64 V])∧Below w.heap.size w w':=by
 go_enter Tryz.func12,Tryz.ntmps12
 go_wp2_with fail
 refine HOF.out.mono ?_
 rintro e w1 ⟨ta,tc,rfl,hpt,hb2⟩
 have HPT:=keep hpt
 have H3:=Lib.hid ((Ok.start w).below hb2)
 have HB0:=Lib.hid hb2
 clear hb2 hpt
 go_upto_region 2 with fail
 have H4:=Lib.hid (H3.out.var w1.heap.size 31 [.bool f,.int .u8 (a:Nat),.int .i64 n1,.string ⟨t1.toArray⟩,.slice ta tl tc] rfl)
 clear H3
 generalize (w1.alloc (.cells #[.bool f,.int .u8 (a:Nat),.int .i64 n1,.string ⟨t1.toArray⟩,.slice ta tl tc] 31))=W5 at H4 ⊢
 have F6:=H4.out.sees
 simp only [sees,kVar,cellsAt,Nat.reduceAdd] at F6
 obtain ⟨⟨⟨z0,fz0⟩,c00,c01,c02,c03,c04,-⟩,-⟩:=F6
 go_wp2_with fail
 exact bodyPost_ret (v:=.tuple #[.string ⟨#[]⟩,.int .i64 er]) (by simp [results,Tryz.results12,go_sem]) rfl ⟨by rw [HV.out.1,HV.out.2],H4.out.bel⟩
theorem can_2 (PT:Option Addr→World→Prop) (s R:ByteArray) (V:Int) (w:World) (f:Bool) (a:Nat) (n1:Int) (t1:List UInt8) (tl:Nat) (at_ er:Int) (HOF:Keep (Calls Tryz.prog 11 #[.string s] w fun e w'=>∃ ta tc,e=.returned (.tuple #[.agg #[.bool f,.int .u8 (a:Nat),.int .i64 n1,.string ⟨t1.toArray⟩,.slice ta tl tc],.int .i64 at_,.int .i64 er])∧PT ta w'∧Below w.heap.size w w')) (he:er=0) (hf:f=false) (HC:Keep (∀ W,Below w.heap.size w W→Calls Tryz.prog 9 #[.agg #[.int .u8 (a:Nat),.int .i64 n1,.string ⟨t1.toArray⟩]] W fun e w'=>e=.returned (.tuple #[.string R,.int .i64 V])∧Below W.heap.size W w')) :
  Calls Tryz.prog 12 #[.string s] w fun e w'=>e=.returned (.tuple #[.string R,.int .i64 V])∧Below w.heap.size w w':=by
 subst he hf
 go_enter Tryz.func12,Tryz.ntmps12
 go_wp2_with fail
 refine HOF.out.mono ?_
 rintro e w1 ⟨ta,tc,rfl,hpt,hb2⟩
 have HPT:=keep hpt
 have H3:=Lib.hid ((Ok.start w).below hb2)
 have HB0:=Lib.hid hb2
 clear hb2 hpt
 go_upto_region 2 with fail
 have H4:=Lib.hid (H3.out.var w1.heap.size 31 [.bool false,.int .u8 (a:Nat),.int .i64 n1,.string ⟨t1.toArray⟩,.slice ta tl tc] rfl)
 clear H3
 generalize (w1.alloc (.cells #[.bool false,.int .u8 (a:Nat),.int .i64 n1,.string ⟨t1.toArray⟩,.slice ta tl tc] 31))=W5 at H4 ⊢
 have F6:=H4.out.sees
 simp only [sees,kVar,cellsAt,Nat.reduceAdd] at F6
 obtain ⟨⟨⟨z0,fz0⟩,c00,c01,c02,c03,c04,-⟩,-⟩:=F6
 go_wp2_with fail
 refine (HC.out _ H4.out.bel).mono ?_
 rintro e w7 ⟨rfl,hb8⟩
 clear z0 fz0 c00 c01 c02 c03 c04
 have H9:=Lib.hid (H4.out.below hb8)
 clear hb8 H4
 have F10:=H9.out.sees
 simp only [sees,kVar,cellsAt,Nat.reduceAdd] at F10
 obtain ⟨⟨⟨z0,fz0⟩,c00,c01,c02,c03,c04,-⟩,-⟩:=F10
 go_wp2_with fail
 exact bodyPost_ret (v:=.tuple #[.string R,.int .i64 V]) (by simp [results,Tryz.results12,go_sem]) rfl ⟨rfl,H9.out.bel⟩
theorem can_3 (PT:Option Addr→World→Prop) (s R:ByteArray) (V:Int) (w:World) (f:Bool) (a:Nat) (n1:Int) (t1:List UInt8) (tl:Nat) (at_ er:Int) (HOF:Keep (Calls Tryz.prog 11 #[.string s] w fun e w'=>∃ ta tc,e=.returned (.tuple #[.agg #[.bool f,.int .u8 (a:Nat),.int .i64 n1,.string ⟨t1.toArray⟩,.slice ta tl tc],.int .i64 at_,.int .i64 er])∧PT ta w'∧Below w.heap.size w w')) (he:er=0) (hf:f=true) (X:ByteArray) (g:Int) (HC:Keep (∀ ta tc W1 W,PT ta W1→Below w.heap.size w W1→Below W1.heap.size W1 W→Calls Tryz.prog 28 #[.slice ta tl tc] W fun e w'=>e=.returned (.tuple #[.string X,.int .i64 g])∧Below W.heap.size W w')) (hg:(g != 0)=true) (HV:Keep (R=⟨#[]⟩∧V=g)) :
  Calls Tryz.prog 12 #[.string s] w fun e w'=>e=.returned (.tuple #[.string R,.int .i64 V])∧Below w.heap.size w w':=by
 subst he hf
 go_enter Tryz.func12,Tryz.ntmps12
 go_wp2_with fail
 refine HOF.out.mono ?_
 rintro e w1 ⟨ta,tc,rfl,hpt,hb2⟩
 have HPT:=keep hpt
 have H3:=Lib.hid ((Ok.start w).below hb2)
 have HB0:=Lib.hid hb2
 clear hb2 hpt
 go_upto_region 2 with fail
 have HBW:=Lib.hid ((Below.refl w1.heap.size w1).alloc (Nat.le_refl _) (.cells #[.bool true,.int .u8 (a:Nat),.int .i64 n1,.string ⟨t1.toArray⟩,.slice ta tl tc] 31))
 have H4:=Lib.hid (H3.out.var w1.heap.size 31 [.bool true,.int .u8 (a:Nat),.int .i64 n1,.string ⟨t1.toArray⟩,.slice ta tl tc] rfl)
 clear H3
 generalize (w1.alloc (.cells #[.bool true,.int .u8 (a:Nat),.int .i64 n1,.string ⟨t1.toArray⟩,.slice ta tl tc] 31))=W5 at H4 HBW ⊢
 have F6:=H4.out.sees
 simp only [sees,kVar,cellsAt,Nat.reduceAdd] at F6
 obtain ⟨⟨⟨z0,fz0⟩,c00,c01,c02,c03,c04,-⟩,-⟩:=F6
 go_wp2_with fail
 refine (HC.out ta tc _ _ HPT.out HB0.out HBW.out).mono ?_
 rintro e w7 ⟨rfl,hb8⟩
 clear z0 fz0 c00 c01 c02 c03 c04
 have H9:=Lib.hid (H4.out.below hb8)
 clear hb8 H4
 have F10:=H9.out.sees
 simp only [sees,kVar,cellsAt,Nat.reduceAdd] at F10
 obtain ⟨⟨⟨z0,fz0⟩,c00,c01,c02,c03,c04,-⟩,-⟩:=F10
 go_wp2_with fail
 exact bodyPost_ret (v:=.tuple #[.string ⟨#[]⟩,.int .i64 g]) (by simp [results,Tryz.results12,go_sem]) rfl ⟨by rw [HV.out.1,HV.out.2],H9.out.bel⟩
theorem can_4 (PT:Option Addr→World→Prop) (s R:ByteArray) (V:Int) (w:World) (f:Bool) (a:Nat) (n1:Int) (t1:List UInt8) (tl:Nat) (at_ er:Int) (HOF:Keep (Calls Tryz.prog 11 #[.string s] w fun e w'=>∃ ta tc,e=.returned (.tuple #[.agg #[.bool f,.int .u8 (a:Nat),.int .i64 n1,.string ⟨t1.toArray⟩,.slice ta tl tc],.int .i64 at_,.int .i64 er])∧PT ta w'∧Below w.heap.size w w')) (he:er=0) (hf:f=true) (X:ByteArray) (g:Int) (HC:Keep (∀ ta tc W1 W,PT ta W1→Below w.heap.size w W1→Below W1.heap.size W1 W→Calls Tryz.prog 28 #[.slice ta tl tc] W fun e w'=>e=.returned (.tuple #[.string X,.int .i64 g])∧Below W.heap.size W w')) (hg:g=0) (hz:X.size≤1000) (HV:Keep (R=⟨#[61]⟩++X∧V=0)) :
  Calls Tryz.prog 12 #[.string s] w fun e w'=>e=.returned (.tuple #[.string R,.int .i64 V])∧Below w.heap.size w w':=by
 subst he hf hg
 have z61:(⟨#[61]⟩:ByteArray).size=1:=rfl
 go_enter Tryz.func12,Tryz.ntmps12
 go_wp2_with fail
 refine HOF.out.mono ?_
 rintro e w1 ⟨ta,tc,rfl,hpt,hb2⟩
 have HPT:=keep hpt
 have H3:=Lib.hid ((Ok.start w).below hb2)
 have HB0:=Lib.hid hb2
 clear hb2 hpt
 go_upto_region 2 with fail
 have HBW:=Lib.hid ((Below.refl w1.heap.size w1).alloc (Nat.le_refl _) (.cells #[.bool true,.int .u8 (a:Nat),.int .i64 n1,.string ⟨t1.toArray⟩,.slice ta tl tc] 31))
 have H4:=Lib.hid (H3.out.var w1.heap.size 31 [.bool true,.int .u8 (a:Nat),.int .i64 n1,.string ⟨t1.toArray⟩,.slice ta tl tc] rfl)
 clear H3
 generalize (w1.alloc (.cells #[.bool true,.int .u8 (a:Nat),.int .i64 n1,.string ⟨t1.toArray⟩,.slice ta tl tc] 31))=W5 at H4 HBW ⊢
 have F6:=H4.out.sees
 simp only [sees,kVar,cellsAt,Nat.reduceAdd] at F6
 obtain ⟨⟨⟨z0,fz0⟩,c00,c01,c02,c03,c04,-⟩,-⟩:=F6
 go_wp2_with fail
 refine (HC.out ta tc _ _ HPT.out HB0.out HBW.out).mono ?_
 rintro e w7 ⟨rfl,hb8⟩
 clear z0 fz0 c00 c01 c02 c03 c04
 have H9:=Lib.hid (H4.out.below hb8)
 clear hb8 H4
 have F10:=H9.out.sees
 simp only [sees,kVar,cellsAt,Nat.reduceAdd] at F10
 obtain ⟨⟨⟨z0,fz0⟩,c00,c01,c02,c03,c04,-⟩,-⟩:=F10
 go_wp2_with fail
 exact bodyPost_ret (v:=.tuple #[.string (⟨#[61]⟩++X),.int .i64 0]) (by simp [results,Tryz.results12,go_sem]) rfl ⟨by rw [HV.out.1,HV.out.2],H9.out.bel⟩
theorem entry_Canonical (s:ByteArray) (w:World) (he:WEnv w) :
  Calls Tryz.prog 12 #[.string s] w fun e w'=>e=.returned (.tuple #[.string ⟨(canS s.data.toList).1.toArray⟩,.int .i64 (canS s.data.toList).2])∧Below w.heap.size w w':=by
 have hof:=entry_Of s w he.1
 unfold OfOut at hof
 obtain ⟨R,hR⟩:∃ R,meanS s.data.toList=R:=⟨_,rfl⟩
 rw [hR] at hof
 obtain ⟨m,at_,er⟩:=R
 dsimp only at hof
 have hrg:=mean_range hR
 obtain ⟨f,⟨a,n1,t1⟩,t⟩:=m
 have HOF:Keep (Calls Tryz.prog 11 #[.string s] w fun e w'=>∃ ta tc,e=.returned (.tuple #[.agg #[.bool f,.int .u8 (a:Nat),.int .i64 n1,.string ⟨t1.toArray⟩,.slice ta t.length tc],.int .i64 at_,.int .i64 er])∧RowsAt w' ta 11 ((t.map Nd.any).map aRow)∧Below w.heap.size w w'):=keep (hof.mono (by
  rintro e w' ⟨tv,rfl,h1,h2⟩
  obtain ⟨ta,tc,rfl,h3⟩:=nds_own h1
  exact ⟨ta,tc,rfl,h3,h2⟩))
 by_cases h0:er=0
 rotate_left
 ·rw [can_err hR h0]
  exact can_1 (fun ta w'=>RowsAt w' ta 11 ((t.map Nd.any).map aRow)) s _ _ w f a n1 t1 t.length at_ er HOF (by simpa using h0) (keep ⟨rfl,rfl⟩)
 subst h0
 cases f with
 | false =>
  have hc:=can_const hR rfl
  rw [hc]
  refine can_2 (fun ta w'=>RowsAt w' ta 11 ((t.map Nd.any).map aRow)) s _ _ w false a n1 t1 t.length at_ 0 HOF rfl rfl (keep fun W hb => ?_)
  exact entry_Constant a n1 ⟨t1.toArray⟩ (by show t1.toArray.size≤_; rw [List.size_toArray]; have h9:t1.length≤256:=hrg.2.2; omega) hrg.1 hrg.2.1 W (he.below hb).1
 | true =>
  obtain ⟨hsz,hft⟩:=mean_tree hR rfl
  have HSF:=keep fun (ta:Option Addr) (tc:Nat) (W1 W:World) (h1:RowsAt W1 ta 11 ((t.map Nd.any).map aRow)) (h2:Below w.heap.size w W1) (h3:Below W1.heap.size W1 W)=>by
   have h9:=show_Formula (t.map Nd.any) ta tc W hsz ⟨h1.below h3,(he.below h2).below h3⟩
   rw [List.length_map] at h9
   exact h9
  by_cases hg:(showF (t.map Nd.any)).2=0
  ·rw [can_form hR rfl hg]
   rw [hg] at HSF
   refine can_4 (fun ta w'=>RowsAt w' ta 11 ((t.map Nd.any).map aRow)) s _ _ w true a n1 t1 t.length at_ 0 HOF rfl rfl _ _ HSF rfl ?_ (keep ⟨?_,rfl⟩)
   ·show (showF (t.map Nd.any)).1.toArray.size≤_
    rw [List.size_toArray]
    have:=showF_len (t.map Nd.any)
    omega
   ·show (⟨_⟩:ByteArray)=(⟨[61].toArray⟩:ByteArray)++⟨_⟩
    rw [bytes_append]
    rfl
  ·rw [can_bad hR rfl hg]
   exact can_3 (fun ta w'=>RowsAt w' ta 11 ((t.map Nd.any).map aRow)) s _ _ w true a n1 t1 t.length at_ 0 HOF rfl rfl _ _ HSF (by simpa using hg) (keep ⟨rfl,rfl⟩)
set_option maxRecDepth 100000
set_option maxHeartbeats 8000000
attribute [local go_sem high] eq_val
theorem mean_25:meanS [50,46,53]=(⟨false,(1,25000,[]),[]⟩,0,0):=by
 rw [mean_const (by decide) (by decide) (by decide)]
 rfl
def kwT:List Nd:=[⟨2,0,0,[],⟨1,1,1,1⟩,0,0,0⟩,⟨1,1,10000,[],R4.zero,0,0,0⟩,ndBin 1]
theorem kw_form:formS [97,49,32,43,32,49]=(kwT,0,0):=by kernel_rfl
theorem can_kw:canS [61,97,49,32,43,32,49]=([61,65,49,43,49],0):=by
 have hm:meanS [61,97,49,32,43,32,49]=(⟨true,(0,0,[]),kwT⟩,0,0):=by
  rw [mean_form (by decide) (by decide) rfl (by show (formS [97,49,32,43,32,49]).2.2=0; rw [kw_form])]
  show (_,_,_)=_
  rw [show [61,97,49,32,43,32,49].tail=([97,49,32,43,32,49]:List UInt8) from rfl,kw_form]
 obtain ⟨-,hck,-,-,-,-⟩:=form_good kw_form
 have hs:showT ((kwT.map Nd.any).map NdA.nd)=[65,49,43,49]:=by rw [map_any]; kernel_rfl
 have hf:showF (kwT.map Nd.any)=([65,49,43,49],0):=by rw [showF_ok hck (by rw [hs]; decide),hs]
 rw [can_form hm rfl (by show (showF (kwT.map Nd.any)).2=0; rw [hf])]
 show (61::(showF (kwT.map Nd.any)).1,_)=_
 rw [hf]
theorem law_known11 (w:World) (he:WEnv w) :
  Calls Tryz.prog 8 #[] w fun e w'=>e=.returned (.bool true)∧Below w.heap.size w w':=by
 have HE:=keep he
 have hof:=entry_Of ⟨#[50,46,53]⟩ w he.1
 unfold OfOut at hof
 rw [show (⟨#[50,46,53]⟩:ByteArray).data.toList=[50,46,53] from rfl,mean_25] at hof
 have HOF:=keep (hof.mono (R':=fun e w'=>∃ ta tn tc,e=.returned (.tuple #[.agg #[.bool false,.int .u8 1,.int .i64 25000,.string ⟨#[]⟩,.slice ta tn tc],.int .i64 0,.int .i64 0])∧Below w.heap.size w w') (by
  rintro e w' ⟨tv,rfl,g1,g2⟩
  obtain ⟨ta,tc,rfl⟩:=own_len g1
  exact ⟨ta,_,tc,rfl,g2⟩))
 have HCA:=keep (fun W (h:WEnv W)=>by
  have h9:=entry_Canonical ⟨#[61,97,49,32,43,32,49]⟩ W h
  rw [show (⟨#[61,97,49,32,43,32,49]⟩:ByteArray).data.toList=[61,97,49,32,43,32,49] from rfl,can_kw] at h9
  exact h9)
 clear he hof
 go_enter Tryz.func8,Tryz.ntmps8
 go_wp2_with fail
 refine HOF.out.mono ?_
 rintro e w1 ⟨ta,tn,tc,rfl,hb2⟩
 have H3:=Lib.hid ((Ok.start w).below hb2)
 clear hb2
 go_upto_region 2 with fail
 have H4:=Lib.hid (H3.out.var w1.heap.size 31 [.bool false,.int .u8 1,.int .i64 25000,.string ⟨#[]⟩,.slice ta tn tc] rfl)
 clear H3
 generalize (w1.alloc (.cells #[.bool false,.int .u8 1,.int .i64 25000,.string ⟨#[]⟩,.slice ta tn tc] 31))=W5 at H4 ⊢
 have F6:=H4.out.sees
 simp only [sees,kVar,cellsAt,Nat.reduceAdd] at F6
 obtain ⟨⟨⟨z0,fz0⟩,c00,c01,c02,c03,c04,-⟩,-⟩:=F6
 go_wp2_with fail
 refine (HCA.out _ (HE.out.below H4.out.bel)).mono ?_
 rintro e w7 ⟨rfl,hb8⟩
 clear z0 fz0 c00 c01 c02 c03 c04
 have H9:=Lib.hid (H4.out.below hb8)
 clear hb8 H4
 have F10:=H9.out.sees
 simp only [sees,kVar,cellsAt,Nat.reduceAdd] at F10
 obtain ⟨⟨⟨z0,fz0⟩,c00,c01,c02,c03,c04,-⟩,-⟩:=F10
 go_wp2_with fail
 go_ret
 exact ⟨rfl,H9.out.bel⟩
