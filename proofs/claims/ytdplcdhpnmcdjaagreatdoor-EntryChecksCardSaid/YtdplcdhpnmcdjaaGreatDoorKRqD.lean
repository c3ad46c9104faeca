/- val.Code at any string. The reference's parser by rf: percent, level. -/
import Derived.Test.YtdplcdhpnmcdjaaGreatDoorKVal
import Derived.Test.YtdplcdhpnmcdjaaGreatDoorKTg
import Derived.Test.YtdplcdhpnmcdjaaGreatDoorKEvb
import Derived.Test.YtdplcdhpnmcdjaaGreatDoorKRqC
namespace Go.Proofs.YtdplcdhpnmcdjaaGreatDoor
set_option maxRecDepth 100000
set_option maxHeartbeats 4000000
open Go.RowKit Go.Proofs.Tryz
def bH (l:List UInt8):Nat:=match (aB.drop 1).idxOf? (l.map upB) with | some k=>k+1 | none=>0
def iL (l:List UInt8):Int:=if bH l=0 then 4 else 0
theorem oO {l:List UInt8} {k:Nat} (h1:1≤k) (h7:k≤7) (h:l.map upB=aB[k]?.getD []):bH l=k:=by
 have key:∀ k:Fin 8,1≤k.1→(aB.drop 1).idxOf? (aB[k.1]?.getD [])=some (k.1 - 1):=by decide
 unfold bH
 rw [h,key ⟨k,by omega⟩ h1]
 show k - 1+1=k
 omega
theorem oQ {l:List UInt8} (h:∀ k,1≤k→k≤7→l.map upB≠aB[k]?.getD []):bH l=0:=by
 unfold bH
 rw [show (aB.drop 1).idxOf? (l.map upB)=none by
  rw [List.idxOf?_eq_none_iff]
  intro hm
  obtain ⟨i,hi,e⟩:=List.mem_iff_getElem.1 hm
  have hi7:i<7:=hi
  refine h (i+1) (by omega) (by omega) ?_
  have key : ∀ j : Fin 7,(aB.drop 1)[j.1]'j.2 = aB[j.1 + 1]?.getD []:=by decide
  rw [← e]
  exact key ⟨i,hi7⟩]
theorem su (a0 a1 a2 a3 a4 a5 a6 a7:Value) (w:World):(Instr.index 105 (.agg #[a0,a1,a2,a3,a4,a5,a6,a7]) (.int .i64 0)).run prog w=.ok a0 w:=by kernel_rfl
theorem sw (a0 a1 a2 a3 a4 a5 a6 a7:Value) (w:World):(Instr.index 105 (.agg #[a0,a1,a2,a3,a4,a5,a6,a7]) (.int .i64 1)).run prog w=.ok a1 w:=by kernel_rfl
theorem sx (a0 a1 a2 a3 a4 a5 a6 a7:Value) (w:World):(Instr.index 105 (.agg #[a0,a1,a2,a3,a4,a5,a6,a7]) (.int .i64 2)).run prog w=.ok a2 w:=by kernel_rfl
theorem sy (a0 a1 a2 a3 a4 a5 a6 a7:Value) (w:World):(Instr.index 105 (.agg #[a0,a1,a2,a3,a4,a5,a6,a7]) (.int .i64 3)).run prog w=.ok a3 w:=by kernel_rfl
theorem sA (a0 a1 a2 a3 a4 a5 a6 a7:Value) (w:World):(Instr.index 105 (.agg #[a0,a1,a2,a3,a4,a5,a6,a7]) (.int .i64 4)).run prog w=.ok a4 w:=by kernel_rfl
theorem sB (a0 a1 a2 a3 a4 a5 a6 a7:Value) (w:World):(Instr.index 105 (.agg #[a0,a1,a2,a3,a4,a5,a6,a7]) (.int .i64 5)).run prog w=.ok a5 w:=by kernel_rfl
theorem sD (a0 a1 a2 a3 a4 a5 a6 a7:Value) (w:World):(Instr.index 105 (.agg #[a0,a1,a2,a3,a4,a5,a6,a7]) (.int .i64 6)).run prog w=.ok a6 w:=by kernel_rfl
theorem sF (a0 a1 a2 a3 a4 a5 a6 a7:Value) (w:World):(Instr.index 105 (.agg #[a0,a1,a2,a3,a4,a5,a6,a7]) (.int .i64 7)).run prog w=.ok a7 w:=by kernel_rfl
theorem qJ (s:ByteArray) (hs:s.size≤4611686018427387904) (w:World) (hw:Words w) :
  Calls prog 121 #[.string s] w fun e w'=>e=.returned (.tuple #[.int .i64 (bH s.data.toList:Nat),.int .i64 (iL s.data.toList)])∧Below w.heap.size w w':=by
 have HUP:=keep fun w=>dY s w hs
 obtain ⟨u,hu⟩:=ex (s.data.toList.map upB)
 rw [hu] at HUP
 have HAT:=keep (fun k h1 h7 h=>oO (l:=s.data.toList) (k:=k) h1 h7 (hu.trans h))
 have HNO:=keep (fun h=>oQ (l:=s.data.toList) (by rw [hu]; exact h))
 obtain ⟨C,hC⟩:=ex (bH s.data.toList)
 obtain ⟨E,hE⟩:=ex (iL s.data.toList)
 have HE:=keep (show E=if C=0 then 4 else 0 by rw [← hE,← hC]; rfl)
 rw [hC] at HAT HNO ⊢
 rw [hE]
 obtain ⟨X,hX⟩:∃ X:ByteArray,⟨u.toArray⟩=X:=⟨_,rfl⟩
 rw [hX] at HUP
 have hXl:X.toList=u:=by rw [← hX]; exact ByteArray.toList_mk u
 have HX:=keep hXl
 have HXX:=keep hX
 have HW:=keep hw
 clear hu hC hE hX hXl hw hs
 go_enter func121,ntmps121
 go_wp2_with fail
 refine (HUP.out _).mono ?_
 rintro e w1 ⟨rfl,hb⟩
 have HB:=Lib.hid hb
 have hw2:=HW.out.below hb
 clear hb HUP
 obtain ⟨hg,hcells⟩:=hw2
 have k0:w1.cell? ⟨0,0,none⟩=some (.string ⟨#[]⟩):=hcells 0 (by decide)
 have k1:w1.cell? ⟨0,1,none⟩=some (.string ⟨#[35,68,73,86,47,48,33]⟩):=hcells 1 (by decide)
 have k2:w1.cell? ⟨0,2,none⟩=some (.string ⟨#[35,86,65,76,85,69,33]⟩):=hcells 2 (by decide)
 have k3:w1.cell? ⟨0,3,none⟩=some (.string ⟨#[35,78,85,77,33]⟩):=hcells 3 (by decide)
 have k4:w1.cell? ⟨0,4,none⟩=some (.string ⟨#[35,78,47,65]⟩):=hcells 4 (by decide)
 have k5:w1.cell? ⟨0,5,none⟩=some (.string ⟨#[35,82,69,70,33]⟩):=hcells 5 (by decide)
 have k6:w1.cell? ⟨0,6,none⟩=some (.string ⟨#[35,67,89,67,76,69,33]⟩):=hcells 6 (by decide)
 have k7:w1.cell? ⟨0,7,none⟩=some (.string ⟨#[35,68,69,78,73,69,68]⟩):=hcells 7 (by decide)
 clear hcells
 go_wp2_with fail
 clear k0 k1 k2 k3 k4 k5 k6 k7 hg
 go_loopw [9] (fun iv wr=>∃ k:Nat,k≤8∧iv=.int .i64 (k:Int)∧ao (∀ j,1≤j→j<k→u≠aB[j]?.getD [])∧wr=w1) (fun iv _=>8 - (intOf iv).toNat)
 case atStart=>exact ⟨0,by omega,rfl,keep (fun j h1 h2=>by omega),rfl⟩
 case round =>
  obtain ⟨k,hk,rfl,HJ,hwr⟩:=hrel
  obtain rfl:w1=wr:=hwr.symm
  have hk':k=0∨k=1∨k=2∨k=3∨k=4∨k=5∨k=6∨k=7∨k=8:=by omega
  rcases hk' with rfl | rfl | rfl | rfl | rfl | rfl | rfl | rfl | rfl
  ·have hix:=su
   go_wp2_with fail
   go_roundw
   case rel=>exact ⟨1,by decide,rfl,keep (fun j h1 h2=>by omega),by first | trivial | rfl⟩
   case measure=>simp [intOf]
  ·have hix:=sw
   by_cases he:u=[35,68,73,86,47,48,33]
   ·have HC:=keep (HAT.out 1 (by decide) (by decide) he)
    have hx:X=⟨#[35,68,73,86,47,48,33]⟩:=by rw [← HXX.out,he]
    subst hx
    clear he
    go_wp2_with fail
    exact bodyPost_ret (v:=.tuple #[.int .i64 1,.int .i64 0]) (by simp [results,results121,go_sem]) rfl ⟨by rw [HE.out,HC.out]; rfl,HB.out⟩
   have hx1:(X.toList == [35,68,73,86,47,48,33])=false:=by rw [HX.out]; exact beq_eq_false_iff_ne.2 he
   have hx2:([35,68,73,86,47,48,33] == X.toList)=false:=by rw [HX.out]; exact beq_eq_false_iff_ne.2 (fun h=>he h.symm)
   have HN:=keep he
   clear he
   go_wp2_with fail
   go_roundw
   case rel=>exact ⟨2,by decide,rfl,keep (fun j h1 h2=>by
    by_cases hj:j=1
    ·subst hj; exact HN.out
    exact HJ.out j h1 (by omega)),by first | trivial | rfl⟩
   case measure=>simp [intOf]
  ·have hix:=sx
   by_cases he:u=[35,86,65,76,85,69,33]
   ·have HC:=keep (HAT.out 2 (by decide) (by decide) he)
    have hx:X=⟨#[35,86,65,76,85,69,33]⟩:=by rw [← HXX.out,he]
    subst hx
    clear he
    go_wp2_with fail
    exact bodyPost_ret (v:=.tuple #[.int .i64 2,.int .i64 0]) (by simp [results,results121,go_sem]) rfl ⟨by rw [HE.out,HC.out]; rfl,HB.out⟩
   have hx1:(X.toList == [35,86,65,76,85,69,33])=false:=by rw [HX.out]; exact beq_eq_false_iff_ne.2 he
   have hx2:([35,86,65,76,85,69,33] == X.toList)=false:=by rw [HX.out]; exact beq_eq_false_iff_ne.2 (fun h=>he h.symm)
   have HN:=keep he
   clear he
   go_wp2_with fail
   go_roundw
   case rel=>exact ⟨3,by decide,rfl,keep (fun j h1 h2=>by
    by_cases hj:j=2
    ·subst hj; exact HN.out
    exact HJ.out j h1 (by omega)),by first | trivial | rfl⟩
   case measure=>simp [intOf]
  ·have hix:=sy
   by_cases he:u=[35,78,85,77,33]
   ·have HC:=keep (HAT.out 3 (by decide) (by decide) he)
    have hx:X=⟨#[35,78,85,77,33]⟩:=by rw [← HXX.out,he]
    subst hx
    clear he
    go_wp2_with fail
    exact bodyPost_ret (v:=.tuple #[.int .i64 3,.int .i64 0]) (by simp [results,results121,go_sem]) rfl ⟨by rw [HE.out,HC.out]; rfl,HB.out⟩
   have hx1:(X.toList == [35,78,85,77,33])=false:=by rw [HX.out]; exact beq_eq_false_iff_ne.2 he
   have hx2:([35,78,85,77,33] == X.toList)=false:=by rw [HX.out]; exact beq_eq_false_iff_ne.2 (fun h=>he h.symm)
   have HN:=keep he
   clear he
   go_wp2_with fail
   go_roundw
   case rel=>exact ⟨4,by decide,rfl,keep (fun j h1 h2=>by
    by_cases hj:j=3
    ·subst hj; exact HN.out
    exact HJ.out j h1 (by omega)),by first | trivial | rfl⟩
   case measure=>simp [intOf]
  ·have hix:=sA
   by_cases he:u=[35,78,47,65]
   ·have HC:=keep (HAT.out 4 (by decide) (by decide) he)
    have hx:X=⟨#[35,78,47,65]⟩:=by rw [← HXX.out,he]
    subst hx
    clear he
    go_wp2_with fail
    exact bodyPost_ret (v:=.tuple #[.int .i64 4,.int .i64 0]) (by simp [results,results121,go_sem]) rfl ⟨by rw [HE.out,HC.out]; rfl,HB.out⟩
   have hx1:(X.toList == [35,78,47,65])=false:=by rw [HX.out]; exact beq_eq_false_iff_ne.2 he
   have hx2:([35,78,47,65] == X.toList)=false:=by rw [HX.out]; exact beq_eq_false_iff_ne.2 (fun h=>he h.symm)
   have HN:=keep he
   clear he
   go_wp2_with fail
   go_roundw
   case rel=>exact ⟨5,by decide,rfl,keep (fun j h1 h2=>by
    by_cases hj:j=4
    ·subst hj; exact HN.out
    exact HJ.out j h1 (by omega)),by first | trivial | rfl⟩
   case measure=>simp [intOf]
  ·have hix:=sB
   by_cases he:u=[35,82,69,70,33]
   ·have HC:=keep (HAT.out 5 (by decide) (by decide) he)
    have hx:X=⟨#[35,82,69,70,33]⟩:=by rw [← HXX.out,he]
    subst hx
    clear he
    go_wp2_with fail
    exact bodyPost_ret (v:=.tuple #[.int .i64 5,.int .i64 0]) (by simp [results,results121,go_sem]) rfl ⟨by rw [HE.out,HC.out]; rfl,HB.out⟩
   have hx1:(X.toList == [35,82,69,70,33])=false:=by rw [HX.out]; exact beq_eq_false_iff_ne.2 he
   have hx2:([35,82,69,70,33] == X.toList)=false:=by rw [HX.out]; exact beq_eq_false_iff_ne.2 (fun h=>he h.symm)
   have HN:=keep he
   clear he
   go_wp2_with fail
   go_roundw
   case rel=>exact ⟨6,by decide,rfl,keep (fun j h1 h2=>by
    by_cases hj:j=5
    ·subst hj; exact HN.out
    exact HJ.out j h1 (by omega)),by first | trivial | rfl⟩
   case measure=>simp [intOf]
  ·have hix:=sD
   by_cases he:u=[35,67,89,67,76,69,33]
   ·have HC:=keep (HAT.out 6 (by decide) (by decide) he)
    have hx:X=⟨#[35,67,89,67,76,69,33]⟩:=by rw [← HXX.out,he]
    subst hx
    clear he
    go_wp2_with fail
    exact bodyPost_ret (v:=.tuple #[.int .i64 6,.int .i64 0]) (by simp [results,results121,go_sem]) rfl ⟨by rw [HE.out,HC.out]; rfl,HB.out⟩
   have hx1:(X.toList == [35,67,89,67,76,69,33])=false:=by rw [HX.out]; exact beq_eq_false_iff_ne.2 he
   have hx2:([35,67,89,67,76,69,33] == X.toList)=false:=by rw [HX.out]; exact beq_eq_false_iff_ne.2 (fun h=>he h.symm)
   have HN:=keep he
   clear he
   go_wp2_with fail
   go_roundw
   case rel=>exact ⟨7,by decide,rfl,keep (fun j h1 h2=>by
    by_cases hj:j=6
    ·subst hj; exact HN.out
    exact HJ.out j h1 (by omega)),by first | trivial | rfl⟩
   case measure=>simp [intOf]
  ·have hix:=sF
   by_cases he:u=[35,68,69,78,73,69,68]
   ·have HC:=keep (HAT.out 7 (by decide) (by decide) he)
    have hx:X=⟨#[35,68,69,78,73,69,68]⟩:=by rw [← HXX.out,he]
    subst hx
    clear he
    go_wp2_with fail
    exact bodyPost_ret (v:=.tuple #[.int .i64 7,.int .i64 0]) (by simp [results,results121,go_sem]) rfl ⟨by rw [HE.out,HC.out]; rfl,HB.out⟩
   have hx1:(X.toList == [35,68,69,78,73,69,68])=false:=by rw [HX.out]; exact beq_eq_false_iff_ne.2 he
   have hx2:([35,68,69,78,73,69,68] == X.toList)=false:=by rw [HX.out]; exact beq_eq_false_iff_ne.2 (fun h=>he h.symm)
   have HN:=keep he
   clear he
   go_wp2_with fail
   go_roundw
   case rel=>exact ⟨8,by decide,rfl,keep (fun j h1 h2=>by
    by_cases hj:j=7
    ·subst hj; exact HN.out
    exact HJ.out j h1 (by omega)),by first | trivial | rfl⟩
   case measure=>simp [intOf]
  have HC:=keep (HNO.out fun k h1 h7=>HJ.out k h1 (by omega))
  go_wp2_with fail
  exact bodyPost_ret (v:=.tuple #[.int .i64 0,.int .i64 4]) (by simp [results,results121,go_sem]) rfl ⟨by rw [HE.out,HC.out]; rfl,HB.out⟩
set_option maxRecDepth 100000
set_option maxHeartbeats 4000000
theorem CP (f:Nat) (IH:∀ g,g≤f→Rc g) (w1:World) (ps:List aS) (pb:Nat) (S:ByteArray) (all:List Tk) (i:Nat) (ns:List Nd) (a c:Int) (n:Nat) (w:World) (hn:all.length≤1000) (hs:S.size≤4611686018427387904) (hi:i≤all.length) (hl:ns.length≤i) (hf:12 * (all.length - i)+3≤f+1) (h:RSt w1 ps pb S all i ns a c w) :
  Calls prog 227 #[.pointer (some ⟨pb,0,none⟩)] w (RQ w1 ps pb S all (rf S.size all (f+1) .pc ⟨i,ns,a,c,n⟩)):=by
 obtain ⟨i0,hi_,hz0,hz1,hz2⟩:=info_parts p8
 have hi9:=hi_
 clear hi_
 have hb2:=zF (e:=S.size) (all:=all) (f:=f) (m:=.pr) (q:=⟨i,ns,a,c,n⟩) hn (hi) (by simp only [Mr.sl]; omega)
 have hc2:=fun qs W (h9:RSt w1 qs pb S all (i) (ns) (a) (c) W)=>IH (f) (Nat.le_refl _) w1 qs pb S all ⟨i,ns,a,c,n⟩ .pr W hn hs (hi) (by simp only [Mr.sl]; omega) (by simp only [e6]; omega) h9
 obtain ⟨⟨i2,ns2,a2,c2,n2⟩,hX2⟩:∃ q,rf S.size all f .pr ⟨i,ns,a,c,n⟩=q:=⟨_,rfl⟩
 rw [hX2] at hb2 hc2
 simp only [Mr.sl] at hb2
 obtain ⟨hb2a,hb2b,hb2c,hb2d⟩:=hb2
 have HC2:=keep hc2
 clear hc2
 rw [EG hX2]
 clear hX2
 generalize hR:rf S.size all f .pct ⟨i2,ns2,a2,c2,n2⟩=R
 have HR:=keep hR
 have H:=Lib.hid h
 clear h IH hR
 go_enter func227,ntmps227
 go_wp2_with fail
 refine (HC2.out _ _ H.out).mono ?_
 rintro e w6 ⟨rfl,hst⟩
 have hst:RSt w1 ps pb S all i2 ns2 a2 c2 w6:=hst
 have HST:=Lib.hid hst
 clear hst HC2 H
 go_wp2_with fail
 go_loopg [] (all.length+2 - i2) (fun gf wr=>∃ (q:Q) (g:Nat),gf=all.length+2 - q.i∧ao (rf S.size all g .pct q=R∧g≤f∧12 * (all.length - q.i)+1≤g∧Gd all q∧q.ns.length≤q.i∧q.i≤1001)∧Hid (RSt w1 ps pb S all q.i q.ns q.a q.c wr))
 case atStart=>exact ⟨⟨i2,ns2,a2,c2,n2⟩,f,rfl,keep ⟨HR.out,Nat.le_refl _,by simp only; omega,hb2d,by simp only; omega,hb2b⟩,HST⟩
 case round =>
  clear HST HR
  obtain ⟨⟨ic,nsc,ac,cc,mc⟩,g,hg,HQ,HRc⟩:=hrel
  obtain ⟨wp,rfl⟩:∃ wp:World,wp=wr:=⟨_,rfl⟩
  subst hg
  obtain ⟨hq,hgf,hfu,hgd,hlc,hic⟩:=HQ.out
  simp only at hfu hlc hic
  have HRd:Hid (RSt w1 ps pb S all ic nsc ac cc wp):=HRc
  clear HQ HRc
  obtain ⟨g0,rfl⟩:∃ g0,g=g0+1:=⟨g - 1,by omega⟩
  rw [Eh] at hq
  obtain ⟨la,lc,tv,-,⟨x0,x1⟩,p0,p1,p2,p3,p4,p5⟩:=HRd.out.cells
  by_cases hc0:cc=0
  ·subst hc0
   go_wp2_with fail
   refine (Ee w1 _ pb S all ic nsc ac 0 7 _ hn (by omega) hs HRd.out).mono ?_
   rintro e w7 ⟨rfl,hb⟩
   have HR7:=Lib.hid (HRd.out.below hb)
   clear hb HRd x0 x1 p0 p1 p2 p3 p4 p5
   cases hop:r7 (hdS S.size (all.drop ic)) 7 with
   | false =>
    rw [hop,if_neg (by simp)] at hq
    subst hq
    clear hop
    go_wp2_with fail
    first
     | go_end0
     | go_ret
     | refine bodyPost_ret (results_none rfl _ _ _) rfl ?_
    exact ⟨rfl,HR7.out⟩
   | true =>
    rw [hop,if_pos (by simp)] at hq
    have hlt:ic<all.length:=zQ (e:=S.size) (q:=⟨ic,nsc,ac,0,mc⟩) hop
    have HQQ:=keep hq
    clear hop hq
    obtain ⟨la,lc,tv,-,⟨x0,x1⟩,p0,p1,p2,p3,p4,p5⟩:=HR7.out.cells
    go_upto_region 3 with fail
    have HI:=Lib.hid HR7.out.inc
    clear HR7 x0 x1 p0 p1 p2 p3 p4 p5
    generalize (w7.setCell ⟨pb,2,none⟩ (.int .i64 ((ic:Int)+1)))=W8 at HI ⊢
    have hst:=HI.out
    clear HI
    obtain ⟨h1,h2,la2,lc2,tv2,hT,hO⟩:=hst
    have HT:=keep hT
    have H2:=keep h2
    have HO:=Lib.hid hO
    have F8:=hO.ok.sees
    simp only [sees,af,aa,Nat.reduceAdd] at F8
    obtain ⟨⟨⟨x0,x1⟩,p0,p1,p2,p3,p4,p5,-⟩,-⟩:=F8
    clear hO hT h2
    obtain ⟨ln,hln⟩:=ex (nsc.length)
    have HLN:=keep hln
    have hln9:ln≤1001:=by omega
    rw [hln] at HO
    clear hln
    go_wp2_with (at_builtin; refine wpList_append_lies _ rfl _ _ _ rfl w1.heap.size 39 i0 _ 11 96 underlying22 hi9 hz0 hz1 hz2 rfl (by omega) _ _ _ rfl (HO.out.own.alloc _) ⟨W8.heap.size,0,none⟩ 1 1 [.int .u8 5,.int .u8 0,.int .i64 0,.string ⟨#[]⟩,.int .i64 0,.int .i64 0,.int .i64 0,.int .i64 0,.int .i64 0,.int .u8 0,.int .i64 0] rfl rfl (World.news_of_block (cs:=#[.int .u8 5,.int .u8 0,.int .i64 0,.string ⟨#[]⟩,.int .i64 0,.int .i64 0,.int .i64 0,.int .i64 0,.int .i64 0,.int .u8 0,.int .i64 0]) (t:=39) (fr:=(0,0)) (heap_alloc_new _ _)) (by intro u hu; simp at hu; rcases hu with rfl | rfl | rfl | rfl | rfl | rfl | rfl | rfl | rfl | rfl | rfl <;> rfl) (by omega) (by unfold maxLen; omega) (by omega) (by have:=HO.out.ok.bel.size; simp; omega) _ rfl ?_; intro g9 cap9 wg9 hown9 hgrow9 hat9 hlt9; have HQ:=Lib.hid ((HO.out.alloc_obj (.cells #[.int .u8 5,.int .u8 0,.int .i64 0,.string ⟨#[]⟩,.int .i64 0,.int .i64 0,.int .i64 0,.int .i64 0,.int .i64 0,.int .u8 0,.int .i64 0] 39)).appended hown9 hgrow9 hat9); have HW9:=keep hown9; have HG9:=keep hgrow9; have HA9:=keep hat9; clear hown9 hgrow9 hat9; have F9:=HQ.out.ok.sees; simp only [sees,af,aa,Nat.reduceAdd] at F9; obtain ⟨⟨⟨y0,y1⟩,y2,y3,y4,y5,y6,y7,-⟩,-⟩:=F9)
    go_roundg (all.length+2 - (ic+1))
    case rel=>exact ⟨⟨ic+1,nsc++[dt],ac,0,mc⟩,g0,rfl,keep ⟨HQQ.out,by omega,by simp only; omega,.inl hlt,by simp only [List.length_append,List.length_singleton]; have:=HLN.out; omega,by simp only; omega⟩,Lib.hid (RSt.put HLN.out h1 H2.out HT.out (HO.out.alloc_obj _) dt HW9.out HG9.out HA9.out)⟩
    case measure=>omega
  have hcb:((cc:Int) == 0)=false:=by simpa using hc0
  rw [if_neg (fun h9=>hc0 h9.1)] at hq
  subst hq
  clear hc0
  go_wp2_with fail
  first
   | go_end0
   | go_ret
   | refine bodyPost_ret (results_none rfl _ _ _) rfl ?_
  exact ⟨rfl,HRd.out⟩
theorem Ed (f:Nat) (IH:∀ g,g≤f→Rc g) (k:Nat) (hk1:1≤k) (hk5:k≤5) (w1:World) (ps:List aS) (pb:Nat) (S:ByteArray) (all:List Tk) (i:Nat) (ns:List Nd) (a c:Int) (n:Nat) (w:World) (hn:all.length≤1000) (hs:S.size≤4611686018427387904) (hi:i≤all.length) (hl:ns.length≤i) (hf:12 * (all.length - i)+(11 - k)≤f+1) (h:RSt w1 ps pb S all i ns a c w) :
  Calls prog 182 #[.pointer (some ⟨pb,0,none⟩),.int .i64 (k:Nat)] w (RQ w1 ps pb S all (rf S.size all (f+1) (.lv k) ⟨i,ns,a,c,n⟩)):=by
 by_cases h5:5≤k
 ·rw [EE h5]
  obtain rfl:k=5:=by omega
  have hb2:=zF (e:=S.size) (all:=all) (f:=f) (m:=.sg) (q:=⟨i,ns,a,c,n⟩) hn (hi) (by simp only [Mr.sl]; omega)
  have hc2:=fun qs W (h9:RSt w1 qs pb S all (i) (ns) (a) (c) W)=>IH (f) (Nat.le_refl _) w1 qs pb S all ⟨i,ns,a,c,n⟩ .sg W hn hs (hi) (by simp only [Mr.sl]; omega) (by simp only [e6]; omega) h9
  obtain ⟨⟨i2,ns2,a2,c2,n2⟩,hX2⟩:∃ q,rf S.size all f .sg ⟨i,ns,a,c,n⟩=q:=⟨_,rfl⟩
  rw [hX2] at hb2 hc2
  simp only [Mr.sl] at hb2
  obtain ⟨hb2a,hb2b,hb2c,hb2d⟩:=hb2
  have HC2:=keep hc2
  clear hc2
  rw [hX2]
  clear hX2
  have H:=Lib.hid h
  clear h IH
  go_enter func182,ntmps182
  go_wp2_with fail
  refine (HC2.out _ _ H.out).mono ?_
  rintro e w6 ⟨rfl,hst⟩
  have hst:RSt w1 ps pb S all i2 ns2 a2 c2 w6:=hst
  have HST:=Lib.hid hst
  clear hst HC2 H
  go_wp2_with fail
  first
   | go_end0
   | go_ret
   | refine bodyPost_ret (results_none rfl _ _ _) rfl ?_
  exact ⟨rfl,HST.out⟩
 obtain ⟨i0,hi_,hz0,hz1,hz2⟩:=info_parts p8
 have hi9:=hi_
 clear hi_
 have hb2:=zF (e:=S.size) (all:=all) (f:=f) (m:=.lv (k+1)) (q:=⟨i,ns,a,c,n⟩) hn (hi) (by simp only [Mr.sl]; omega)
 have hc2:∀ qs W,RSt w1 qs pb S all (i) ns a c W→Calls prog 182 #[.pointer (some ⟨pb,0,none⟩),.int .i64 ((k:Int)+1)] W (RQ w1 qs pb S all (rf S.size all f (.lv (k+1)) ⟨i,ns,a,c,n⟩)):=by
  intro qs W h9
  rw [show ((k:Int)+1)=((k+1:Nat):Int) by omega]
  exact IH f (Nat.le_refl _) w1 qs pb S all ⟨i,ns,a,c,n⟩ (.lv (k+1)) W hn hs (hi) (by simp only [Mr.sl]; omega) (by simp only [e6]; omega) h9 (by omega) (by omega)
 obtain ⟨⟨i2,ns2,a2,c2,n2⟩,hX2⟩:∃ q,rf S.size all f (.lv (k+1)) ⟨i,ns,a,c,n⟩=q:=⟨_,rfl⟩
 rw [hX2] at hb2 hc2
 simp only [Mr.sl] at hb2
 obtain ⟨hb2a,hb2b,hb2c,hb2d⟩:=hb2
 have HC2:=keep hc2
 clear hc2
 rw [ED h5 hX2]
 clear hX2
 generalize hR:rf S.size all f (.ops k) ⟨i2,ns2,a2,c2,n2⟩=R
 have HR:=keep hR
 have H:=Lib.hid h
 have HIH:=keep IH
 clear h IH hR
 have hkb:((k:Int) == 5)=false:=by simp; omega
 have hfn:=DY
 go_enter func182,ntmps182
 go_wp2_with fail
 refine (HC2.out _ _ H.out).mono ?_
 rintro e w6 ⟨rfl,hst⟩
 have hst:RSt w1 ps pb S all i2 ns2 a2 c2 w6:=hst
 have HST:=Lib.hid hst
 clear hst HC2 H
 go_wp2_with fail
 clear hkb
 go_loopg [] (all.length+2 - i2) (fun gf wr=>∃ (q:Q) (g:Nat),gf=all.length+2 - q.i∧ao (rf S.size all g (.ops k) q=R∧g≤f∧12 * (all.length - q.i)+1≤g∧Gd all q∧q.ns.length≤q.i∧q.i≤1001)∧Hid (RSt w1 ps pb S all q.i q.ns q.a q.c wr))
 case atStart=>exact ⟨⟨i2,ns2,a2,c2,n2⟩,f,rfl,keep ⟨HR.out,Nat.le_refl _,by simp only; omega,hb2d,by simp only; omega,hb2b⟩,HST⟩
 case round =>
  clear HST HR
  obtain ⟨⟨ic,nsc,ac,cc,mc⟩,g,hg,HQ,HRc⟩:=hrel
  obtain ⟨wp,rfl⟩:∃ wp:World,wp=wr:=⟨_,rfl⟩
  subst hg
  obtain ⟨hq,hgf,hfu,hgd,hlc,hic⟩:=HQ.out
  simp only at hfu hlc hic
  have HRd:Hid (RSt w1 ps pb S all ic nsc ac cc wp):=HRc
  clear HQ HRc
  obtain ⟨g0,rfl⟩:∃ g0,g=g0+1:=⟨g - 1,by omega⟩
  rw [Eg] at hq
  obtain ⟨la,lc,tv,-,⟨x0,x1⟩,p0,p1,p2,p3,p4,p5⟩:=HRd.out.cells
  by_cases hc0:cc=0
  ·subst hc0
   go_wp2_with fail
   refine (Ee w1 _ pb S all ic nsc ac 0 k _ hn (by omega) hs HRd.out).mono ?_
   rintro e w7 ⟨rfl,hb⟩
   have HR7:=Lib.hid (HRd.out.below hb)
   clear hb HRd x0 x1 p0 p1 p2 p3 p4 p5
   cases hop:r7 (hdS S.size (all.drop ic)) k with
   | false =>
    rw [hop,if_neg (by simp)] at hq
    subst hq
    clear hop
    go_wp2_with fail
    first
     | go_end0
     | go_ret
     | refine bodyPost_ret (results_none rfl _ _ _) rfl ?_
    exact ⟨rfl,HR7.out⟩
   | true =>
    rw [hop,if_pos (by simp)] at hq
    have hlt:ic<all.length:=zQ (e:=S.size) (q:=⟨ic,nsc,ac,0,mc⟩) hop
    have HH:=keep (zu w1 _ pb S all ic nsc ac 0 w7 hn (by omega) hs HR7.out)
    have hb3:=zF (e:=S.size) (all:=all) (f:=g0) (m:=.lv (k+1)) (q:=⟨ic+1,nsc,ac,0,mc⟩) hn (hlt) (by simp only [Mr.sl]; omega)
    have hc3:∀ qs W,RSt w1 qs pb S all (ic+1) nsc ac 0 W→Calls prog 182 #[.pointer (some ⟨pb,0,none⟩),.int .i64 ((k:Int)+1)] W (RQ w1 qs pb S all (rf S.size all g0 (.lv (k+1)) ⟨ic+1,nsc,ac,0,mc⟩)):=by
     intro qs W h9
     rw [show ((k:Int)+1)=((k+1:Nat):Int) by omega]
     exact HIH.out g0 (by omega) w1 qs pb S all ⟨ic+1,nsc,ac,0,mc⟩ (.lv (k+1)) W hn hs (hlt) (by simp only [Mr.sl]; omega) (by simp only [e6]; omega) h9 (by omega) (by omega)
    obtain ⟨⟨i3,ns3,a3,c3,n3⟩,hX3⟩:∃ q,rf S.size all g0 (.lv (k+1)) ⟨ic+1,nsc,ac,0,mc⟩=q:=⟨_,rfl⟩
    rw [hX3] at hb3 hc3 hq
    simp only [Mr.sl] at hb3
    obtain ⟨hb3a,hb3b,hb3c,hb3d⟩:=hb3
    have HC3:=keep hc3
    clear hc3
    clear hX3
    obtain ⟨⟨tk,tn,tt,⟨t1,t2,t3,t4⟩,ta⟩,ht⟩:∃ t,hdS S.size (all.drop ic)=t:=⟨_,rfl⟩
    rw [ht] at HH hq
    have HQQ:=keep hq
    clear hop hq ht
    go_wp2_with fail
    refine (HH.out).mono ?_
    rintro e w8 ⟨rfl,hb⟩
    have HR8:=Lib.hid (HR7.out.below hb)
    clear hb HR7 HH
    simp only [tkA]
    obtain ⟨la,lc,tv,-,⟨x0,x1⟩,p0,p1,p2,p3,p4,p5⟩:=HR8.out.cells
    go_wp2_with fail
    refine (HC3.out _ _ HR8.out.inc).mono ?_
    rintro e w9 ⟨rfl,hst⟩
    have hst:RSt w1 ps pb S all i3 ns3 a3 c3 w9:=hst
    clear HC3 HR8 x0 x1 p0 p1 p2 p3 p4 p5
    obtain ⟨h1,h2,la2,lc2,tv2,hT,hO⟩:=hst
    have HT:=keep hT
    have H2:=keep h2
    have HO:=Lib.hid hO
    have F8:=hO.ok.sees
    simp only [sees,af,aa,Nat.reduceAdd] at F8
    obtain ⟨⟨⟨x0,x1⟩,p0,p1,p2,p3,p4,p5,-⟩,-⟩:=F8
    clear hO hT h2
    obtain ⟨ln,hln⟩:=ex (ns3.length)
    have HLN:=keep hln
    have hln9:ln≤1001:=by omega
    rw [hln] at HO
    clear hln
    go_wp2_with (at_builtin; refine wpList_append_lies _ rfl _ _ _ rfl w1.heap.size 39 i0 _ 11 96 underlying22 hi9 hz0 hz1 hz2 rfl (by omega) _ _ _ rfl (HO.out.own.alloc _) ⟨w9.heap.size,0,none⟩ 1 1 [.int .u8 6,.int .u8 0,.int .i64 0,.string ⟨#[]⟩,.int .i64 0,.int .i64 0,.int .i64 0,.int .i64 0,.int .i64 tn,.int .u8 0,.int .i64 0] rfl rfl (World.news_of_block (cs:=#[.int .u8 6,.int .u8 0,.int .i64 0,.string ⟨#[]⟩,.int .i64 0,.int .i64 0,.int .i64 0,.int .i64 0,.int .i64 tn,.int .u8 0,.int .i64 0]) (t:=39) (fr:=(0,0)) (heap_alloc_new _ _)) (by intro u hu; simp at hu; rcases hu with rfl | rfl | rfl | rfl | rfl | rfl | rfl | rfl | rfl | rfl | rfl <;> rfl) (by omega) (by unfold maxLen; omega) (by omega) (by have:=HO.out.ok.bel.size; simp; omega) _ rfl ?_; intro g9 cap9 wg9 hown9 hgrow9 hat9 hlt9; have HQ:=Lib.hid ((HO.out.alloc_obj (.cells #[.int .u8 6,.int .u8 0,.int .i64 0,.string ⟨#[]⟩,.int .i64 0,.int .i64 0,.int .i64 0,.int .i64 0,.int .i64 tn,.int .u8 0,.int .i64 0] 39)).appended hown9 hgrow9 hat9); have HW9:=keep hown9; have HG9:=keep hgrow9; have HA9:=keep hat9; clear hown9 hgrow9 hat9; have F9:=HQ.out.ok.sees; simp only [sees,af,aa,Nat.reduceAdd] at F9; obtain ⟨⟨⟨y0,y1⟩,y2,y3,y4,y5,y6,y7,-⟩,-⟩:=F9)
    go_roundg (all.length+2 - i3)
    case rel=>exact ⟨⟨i3,ns3++[cN tn],a3,c3,n3⟩,g0,rfl,keep ⟨HQQ.out,by omega,by simp only; omega,hb3d,by simp only [List.length_append,List.length_singleton]; have:=HLN.out; omega,by simp only; omega⟩,Lib.hid (RSt.put HLN.out h1 H2.out HT.out (HO.out.alloc_obj _) (cN tn) HW9.out HG9.out HA9.out)⟩
    case measure=>omega
  have hcb:((cc:Int) == 0)=false:=by simpa using hc0
  rw [if_neg (fun h9=>hc0 h9.1)] at hq
  subst hq
  clear hc0
  go_wp2_with fail
  first
   | go_end0
   | go_ret
   | refine bodyPost_ret (results_none rfl _ _ _) rfl ?_
  exact ⟨rfl,HRd.out⟩
theorem Dw (w1:World) (ps:List aS) (pb:Nat) (S:ByteArray) (all:List Tk) (i:Nat) (ns:List Nd) (a c:Int) (n k:Nat) (w:World) (hn:all.length≤1000) (hi:i≤2000) (hs:S.size≤4611686018427387904) (h:RSt w1 ps pb S all i ns a c w) :
  Calls prog 250 #[.pointer (some ⟨pb,0,none⟩),.int .u8 (k:Nat)] w (RQ w1 ps pb S all ((⟨i,ns,a,c,n⟩:Q).want S.size all k)):=by
 unfold Q.want
 by_cases hk:(hdS S.size (all.drop i)).kind=k
 ·rw [if_pos (show (Q.hd S.size all ⟨i,ns,a,c,n⟩).kind=k from hk)]
  exact zW w1 ps pb S all i ns a c k w hn hi hs h hk
 rw [if_neg (show ¬ (Q.hd S.size all ⟨i,ns,a,c,n⟩).kind=k from hk)]
 exact AP w1 ps pb S all i ns a c k w hn hi hs h hk
