/- val.Code at any string. -/
import Derived.Test.YtfffihcadhfplaaGreatDoorQVal
import Derived.Test.YtfffihcadhfplaaGreatDoorQEvb
namespace Go.Proofs.YtfffihcadhfplaaGreatDoor
set_option maxRecDepth 100000
set_option maxHeartbeats 4000000
open Go.RowKit
def codeS (l:List UInt8):Nat:=match (allNames.drop 1).idxOf? (l.map upB) with | some k=>k+1 | none=>0
def codeE (l:List UInt8):Int:=if codeS l=0 then 4 else 0
theorem code_at {l:List UInt8} {k:Nat} (h1:1≤k) (h7:k≤7) (h:l.map upB=allNames[k]?.getD []):codeS l=k:=by
 have key:∀ k:Fin 8,1≤k.1→(allNames.drop 1).idxOf? (allNames[k.1]?.getD [])=some (k.1 - 1):=by decide
 unfold codeS
 rw [h,key ⟨k,by omega⟩ h1]
 show k - 1+1=k
 omega
theorem code_no {l:List UInt8} (h:∀ k,1≤k→k≤7→l.map upB≠allNames[k]?.getD []):codeS l=0:=by
 unfold codeS
 rw [show (allNames.drop 1).idxOf? (l.map upB)=none by
  rw [List.idxOf?_eq_none_iff]
  intro hm
  obtain ⟨i,hi,e⟩:=List.mem_iff_getElem.1 hm
  have hi7:i<7:=hi
  refine h (i+1) (by omega) (by omega) ?_
  have key : ∀ j : Fin 7,(allNames.drop 1)[j.1]'j.2 = allNames[j.1 + 1]?.getD []:=by decide
  rw [← e]
  exact key ⟨i,hi7⟩]
theorem word_ix0 (a0 a1 a2 a3 a4 a5 a6 a7:Value) (w:World):(Instr.index 65 (.agg #[a0,a1,a2,a3,a4,a5,a6,a7]) (.int .i64 0)).run Tryz.prog w=.ok a0 w:=by kernel_rfl
theorem word_ix1 (a0 a1 a2 a3 a4 a5 a6 a7:Value) (w:World):(Instr.index 65 (.agg #[a0,a1,a2,a3,a4,a5,a6,a7]) (.int .i64 1)).run Tryz.prog w=.ok a1 w:=by kernel_rfl
theorem word_ix2 (a0 a1 a2 a3 a4 a5 a6 a7:Value) (w:World):(Instr.index 65 (.agg #[a0,a1,a2,a3,a4,a5,a6,a7]) (.int .i64 2)).run Tryz.prog w=.ok a2 w:=by kernel_rfl
theorem word_ix3 (a0 a1 a2 a3 a4 a5 a6 a7:Value) (w:World):(Instr.index 65 (.agg #[a0,a1,a2,a3,a4,a5,a6,a7]) (.int .i64 3)).run Tryz.prog w=.ok a3 w:=by kernel_rfl
theorem word_ix4 (a0 a1 a2 a3 a4 a5 a6 a7:Value) (w:World):(Instr.index 65 (.agg #[a0,a1,a2,a3,a4,a5,a6,a7]) (.int .i64 4)).run Tryz.prog w=.ok a4 w:=by kernel_rfl
theorem word_ix5 (a0 a1 a2 a3 a4 a5 a6 a7:Value) (w:World):(Instr.index 65 (.agg #[a0,a1,a2,a3,a4,a5,a6,a7]) (.int .i64 5)).run Tryz.prog w=.ok a5 w:=by kernel_rfl
theorem word_ix6 (a0 a1 a2 a3 a4 a5 a6 a7:Value) (w:World):(Instr.index 65 (.agg #[a0,a1,a2,a3,a4,a5,a6,a7]) (.int .i64 6)).run Tryz.prog w=.ok a6 w:=by kernel_rfl
theorem word_ix7 (a0 a1 a2 a3 a4 a5 a6 a7:Value) (w:World):(Instr.index 65 (.agg #[a0,a1,a2,a3,a4,a5,a6,a7]) (.int .i64 7)).run Tryz.prog w=.ok a7 w:=by kernel_rfl
theorem val_CodeV (s:ByteArray) (hs:s.size≤4611686018427387904) (w:World) (hw:Words w) :
  Calls Tryz.prog 48 #[.string s] w fun e w'=>e=.returned (.tuple #[.int .i64 (codeS s.data.toList:Nat),.int .i64 (codeE s.data.toList)])∧Below w.heap.size w w':=by
 have HUP:=keep fun w=>glyph_Upper s w hs
 obtain ⟨u,hu⟩:∃ u,s.data.toList.map upB=u:=⟨_,rfl⟩
 rw [hu] at HUP
 have HAT:=keep (fun k h1 h7 h=>code_at (l:=s.data.toList) (k:=k) h1 h7 (hu.trans h))
 have HNO:=keep (fun h=>code_no (l:=s.data.toList) (by rw [hu]; exact h))
 obtain ⟨C,hC⟩:∃ C,codeS s.data.toList=C:=⟨_,rfl⟩
 obtain ⟨E,hE⟩:∃ E,codeE s.data.toList=E:=⟨_,rfl⟩
 have HE:=keep (show E=if C=0 then 4 else 0 by rw [← hE,← hC]; rfl)
 rw [hC] at HAT HNO ⊢
 rw [hE]
 obtain ⟨X,hX⟩:∃ X:ByteArray,⟨u.toArray⟩=X:=⟨_,rfl⟩
 rw [hX] at HUP
 have hXl:X.toList=u:=by rw [← hX]; exact ByteArray.toList_mk u
 have HX:=keep hXl
 have HXX:=keep hX
 have HW:=keep hw
 clear hu hC hE hX hXl hw hs
 go_enter Tryz.func48,Tryz.ntmps48
 go_wp2_with fail
 refine (HUP.out _).mono ?_
 rintro e w1 ⟨rfl,hb⟩
 have HB:=Lib.hid hb
 have hw2:=HW.out.below hb
 clear hb HUP
 obtain ⟨hg,hcells⟩:=hw2
 have k0:w1.cell? ⟨0,0,none⟩=some (.string ⟨#[]⟩):=hcells 0 (by decide)
 have k1:w1.cell? ⟨0,1,none⟩=some (.string ⟨#[35,68,73,86,47,48,33]⟩):=hcells 1 (by decide)
 have k2:w1.cell? ⟨0,2,none⟩=some (.string ⟨#[35,86,65,76,85,69,33]⟩):=hcells 2 (by decide)
 have k3:w1.cell? ⟨0,3,none⟩=some (.string ⟨#[35,78,85,77,33]⟩):=hcells 3 (by decide)
 have k4:w1.cell? ⟨0,4,none⟩=some (.string ⟨#[35,78,47,65]⟩):=hcells 4 (by decide)
 have k5:w1.cell? ⟨0,5,none⟩=some (.string ⟨#[35,82,69,70,33]⟩):=hcells 5 (by decide)
 have k6:w1.cell? ⟨0,6,none⟩=some (.string ⟨#[35,67,89,67,76,69,33]⟩):=hcells 6 (by decide)
 have k7:w1.cell? ⟨0,7,none⟩=some (.string ⟨#[35,68,69,78,73,69,68]⟩):=hcells 7 (by decide)
 clear hcells
 go_wp2_with fail
 clear k0 k1 k2 k3 k4 k5 k6 k7 hg
 go_loopw [9] (fun iv wr=>∃ k:Nat,k≤8∧iv=.int .i64 (k:Int)∧Keep (∀ j,1≤j→j<k→u≠allNames[j]?.getD [])∧wr=w1) (fun iv _=>8 - (intOf iv).toNat)
 case atStart=>exact ⟨0,by omega,rfl,keep (fun j h1 h2=>by omega),rfl⟩
 case round =>
  obtain ⟨k,hk,rfl,HJ,hwr⟩:=hrel
  obtain rfl:w1=wr:=hwr.symm
  have hk':k=0∨k=1∨k=2∨k=3∨k=4∨k=5∨k=6∨k=7∨k=8:=by omega
  rcases hk' with rfl | rfl | rfl | rfl | rfl | rfl | rfl | rfl | rfl
  ·have hix:=word_ix0
   go_wp2_with fail
   go_roundw
   case rel=>exact ⟨1,by decide,rfl,keep (fun j h1 h2=>by omega),by first | trivial | rfl⟩
   case measure=>simp [intOf]
  ·have hix:=word_ix1
   by_cases he:u=[35,68,73,86,47,48,33]
   ·have HC:=keep (HAT.out 1 (by decide) (by decide) he)
    have hx:X=⟨#[35,68,73,86,47,48,33]⟩:=by rw [← HXX.out,he]
    subst hx
    clear he
    go_wp2_with fail
    exact bodyPost_ret (v:=.tuple #[.int .i64 1,.int .i64 0]) (by simp [results,Tryz.results48,go_sem]) rfl ⟨by rw [HE.out,HC.out]; rfl,HB.out⟩
   ·have hx1:(X.toList == [35,68,73,86,47,48,33])=false:=by rw [HX.out]; exact beq_eq_false_iff_ne.2 he
    have hx2:([35,68,73,86,47,48,33] == X.toList)=false:=by rw [HX.out]; exact beq_eq_false_iff_ne.2 (fun h=>he h.symm)
    have HN:=keep he
    clear he
    go_wp2_with fail
    go_roundw
    case rel=>exact ⟨2,by decide,rfl,keep (fun j h1 h2=>by
     by_cases hj:j=1
     ·subst hj; exact HN.out
     ·exact HJ.out j h1 (by omega)),by first | trivial | rfl⟩
    case measure=>simp [intOf]
  ·have hix:=word_ix2
   by_cases he:u=[35,86,65,76,85,69,33]
   ·have HC:=keep (HAT.out 2 (by decide) (by decide) he)
    have hx:X=⟨#[35,86,65,76,85,69,33]⟩:=by rw [← HXX.out,he]
    subst hx
    clear he
    go_wp2_with fail
    exact bodyPost_ret (v:=.tuple #[.int .i64 2,.int .i64 0]) (by simp [results,Tryz.results48,go_sem]) rfl ⟨by rw [HE.out,HC.out]; rfl,HB.out⟩
   ·have hx1:(X.toList == [35,86,65,76,85,69,33])=false:=by rw [HX.out]; exact beq_eq_false_iff_ne.2 he
    have hx2:([35,86,65,76,85,69,33] == X.toList)=false:=by rw [HX.out]; exact beq_eq_false_iff_ne.2 (fun h=>he h.symm)
    have HN:=keep he
    clear he
    go_wp2_with fail
    go_roundw
    case rel=>exact ⟨3,by decide,rfl,keep (fun j h1 h2=>by
     by_cases hj:j=2
     ·subst hj; exact HN.out
     ·exact HJ.out j h1 (by omega)),by first | trivial | rfl⟩
    case measure=>simp [intOf]
  ·have hix:=word_ix3
   by_cases he:u=[35,78,85,77,33]
   ·have HC:=keep (HAT.out 3 (by decide) (by decide) he)
    have hx:X=⟨#[35,78,85,77,33]⟩:=by rw [← HXX.out,he]
    subst hx
    clear he
    go_wp2_with fail
    exact bodyPost_ret (v:=.tuple #[.int .i64 3,.int .i64 0]) (by simp [results,Tryz.results48,go_sem]) rfl ⟨by rw [HE.out,HC.out]; rfl,HB.out⟩
   ·have hx1:(X.toList == [35,78,85,77,33])=false:=by rw [HX.out]; exact beq_eq_false_iff_ne.2 he
    have hx2:([35,78,85,77,33] == X.toList)=false:=by rw [HX.out]; exact beq_eq_false_iff_ne.2 (fun h=>he h.symm)
    have HN:=keep he
    clear he
    go_wp2_with fail
    go_roundw
    case rel=>exact ⟨4,by decide,rfl,keep (fun j h1 h2=>by
     by_cases hj:j=3
     ·subst hj; exact HN.out
     ·exact HJ.out j h1 (by omega)),by first | trivial | rfl⟩
    case measure=>simp [intOf]
  ·have hix:=word_ix4
   by_cases he:u=[35,78,47,65]
   ·have HC:=keep (HAT.out 4 (by decide) (by decide) he)
    have hx:X=⟨#[35,78,47,65]⟩:=by rw [← HXX.out,he]
    subst hx
    clear he
    go_wp2_with fail
    exact bodyPost_ret (v:=.tuple #[.int .i64 4,.int .i64 0]) (by simp [results,Tryz.results48,go_sem]) rfl ⟨by rw [HE.out,HC.out]; rfl,HB.out⟩
   ·have hx1:(X.toList == [35,78,47,65])=false:=by rw [HX.out]; exact beq_eq_false_iff_ne.2 he
    have hx2:([35,78,47,65] == X.toList)=false:=by rw [HX.out]; exact beq_eq_false_iff_ne.2 (fun h=>he h.symm)
    have HN:=keep he
    clear he
    go_wp2_with fail
    go_roundw
    case rel=>exact ⟨5,by decide,rfl,keep (fun j h1 h2=>by
     by_cases hj:j=4
     ·subst hj; exact HN.out
     ·exact HJ.out j h1 (by omega)),by first | trivial | rfl⟩
    case measure=>simp [intOf]
  ·have hix:=word_ix5
   by_cases he:u=[35,82,69,70,33]
   ·have HC:=keep (HAT.out 5 (by decide) (by decide) he)
    have hx:X=⟨#[35,82,69,70,33]⟩:=by rw [← HXX.out,he]
    subst hx
    clear he
    go_wp2_with fail
    exact bodyPost_ret (v:=.tuple #[.int .i64 5,.int .i64 0]) (by simp [results,Tryz.results48,go_sem]) rfl ⟨by rw [HE.out,HC.out]; rfl,HB.out⟩
   ·have hx1:(X.toList == [35,82,69,70,33])=false:=by rw [HX.out]; exact beq_eq_false_iff_ne.2 he
    have hx2:([35,82,69,70,33] == X.toList)=false:=by rw [HX.out]; exact beq_eq_false_iff_ne.2 (fun h=>he h.symm)
    have HN:=keep he
    clear he
    go_wp2_with fail
    go_roundw
    case rel=>exact ⟨6,by decide,rfl,keep (fun j h1 h2=>by
     by_cases hj:j=5
     ·subst hj; exact HN.out
     ·exact HJ.out j h1 (by omega)),by first | trivial | rfl⟩
    case measure=>simp [intOf]
  ·have hix:=word_ix6
   by_cases he:u=[35,67,89,67,76,69,33]
   ·have HC:=keep (HAT.out 6 (by decide) (by decide) he)
    have hx:X=⟨#[35,67,89,67,76,69,33]⟩:=by rw [← HXX.out,he]
    subst hx
    clear he
    go_wp2_with fail
    exact bodyPost_ret (v:=.tuple #[.int .i64 6,.int .i64 0]) (by simp [results,Tryz.results48,go_sem]) rfl ⟨by rw [HE.out,HC.out]; rfl,HB.out⟩
   ·have hx1:(X.toList == [35,67,89,67,76,69,33])=false:=by rw [HX.out]; exact beq_eq_false_iff_ne.2 he
    have hx2:([35,67,89,67,76,69,33] == X.toList)=false:=by rw [HX.out]; exact beq_eq_false_iff_ne.2 (fun h=>he h.symm)
    have HN:=keep he
    clear he
    go_wp2_with fail
    go_roundw
    case rel=>exact ⟨7,by decide,rfl,keep (fun j h1 h2=>by
     by_cases hj:j=6
     ·subst hj; exact HN.out
     ·exact HJ.out j h1 (by omega)),by first | trivial | rfl⟩
    case measure=>simp [intOf]
  ·have hix:=word_ix7
   by_cases he:u=[35,68,69,78,73,69,68]
   ·have HC:=keep (HAT.out 7 (by decide) (by decide) he)
    have hx:X=⟨#[35,68,69,78,73,69,68]⟩:=by rw [← HXX.out,he]
    subst hx
    clear he
    go_wp2_with fail
    exact bodyPost_ret (v:=.tuple #[.int .i64 7,.int .i64 0]) (by simp [results,Tryz.results48,go_sem]) rfl ⟨by rw [HE.out,HC.out]; rfl,HB.out⟩
   ·have hx1:(X.toList == [35,68,69,78,73,69,68])=false:=by rw [HX.out]; exact beq_eq_false_iff_ne.2 he
    have hx2:([35,68,69,78,73,69,68] == X.toList)=false:=by rw [HX.out]; exact beq_eq_false_iff_ne.2 (fun h=>he h.symm)
    have HN:=keep he
    clear he
    go_wp2_with fail
    go_roundw
    case rel=>exact ⟨8,by decide,rfl,keep (fun j h1 h2=>by
     by_cases hj:j=7
     ·subst hj; exact HN.out
     ·exact HJ.out j h1 (by omega)),by first | trivial | rfl⟩
    case measure=>simp [intOf]
  ·have HC:=keep (HNO.out fun k h1 h7=>HJ.out k h1 (by omega))
   go_wp2_with fail
   exact bodyPost_ret (v:=.tuple #[.int .i64 0,.int .i64 4]) (by simp [results,Tryz.results48,go_sem]) rfl ⟨by rw [HE.out,HC.out]; rfl,HB.out⟩
