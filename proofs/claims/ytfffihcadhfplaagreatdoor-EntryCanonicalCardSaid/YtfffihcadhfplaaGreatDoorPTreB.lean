/- Contracts of tree.below and tree.fits. Plain: nodes of any kind, and what tree.Check says of them. No program stands here. -/
import Derived.Test.YtfffihcadhfplaaGreatDoorPTreA
import Derived.Test.YtfffihcadhfplaaGreatDoorPParK
namespace Go.Proofs.YtfffihcadhfplaaGreatDoor
set_option maxRecDepth 100000
set_option maxHeartbeats 4000000
open Go.RowKit
def RowsAt (w:World) (a:Option Addr) (s:Nat) (l:List (List Value)):Prop :=
 l≠[]→∃ b o,a=some ⟨b,o,none⟩∧b<w.heap.size∧∀ i r,l[i]?=some r→∀ j v,r[j]?=some v→w.cell? ⟨b,o+(i * s+j),none⟩=some v
theorem RowsAt.below {w w':World} {a:Option Addr} {s:Nat} {l:List (List Value)} (h:RowsAt w a s l) (hb:Below w.heap.size w w'):RowsAt w' a s l:=by
 intro hl
 obtain ⟨b,o,e,h1,h2⟩:=h hl
 exact ⟨b,o,e,Nat.lt_of_lt_of_le h1 hb.size,fun i r hi j v hj=>(hb.cell h1).trans (h2 i r hi j v hj)⟩
def ptRow (p:Pt):List Value:=[.int .i64 (p.root:Nat),.int .i64 (p.depth:Nat),.bool p.wide]
def ptCells (l:List Pt):List Value:=l.flatMap ptRow
theorem below_cases (n:Nd):(n.kind=4∧belowS n=1)∨(n.kind=5∧belowS n=1)∨(n.kind=6∧belowS n=2)∨(n.kind=7∧belowS n=n.n)∨(n.kind≠4∧n.kind≠5∧n.kind≠6∧n.kind≠7∧belowS n=0):=by
 unfold belowS
 by_cases h4:n.kind=4
 ·exact .inl ⟨h4,if_pos (.inl h4)⟩
 ·by_cases h5:n.kind=5
  ·exact .inr (.inl ⟨h5,if_pos (.inr h5)⟩)
  ·rw [if_neg (by omega)]
   by_cases h6:n.kind=6
   ·exact .inr (.inr (.inl ⟨h6,if_pos h6⟩))
   ·rw [if_neg h6]
    by_cases h7:n.kind=7
    ·exact .inr (.inr (.inr (.inl ⟨h7,if_pos h7⟩)))
    ·exact .inr (.inr (.inr (.inr ⟨h4,h5,h6,h7,if_neg h7⟩)))
theorem tree_below (n:Nd) (w:World) :
  Calls Tryz.prog 136 #[ndA n] w fun e w'=>e=.returned (.int .i64 (belowS n:Nat))∧Below w.heap.size w w':=by
 have hc:=below_cases n
 obtain ⟨nk,vk,vn,vt,⟨r1,r2,r3,r4⟩,op,fn,nn⟩:=n
 obtain ⟨k,hk⟩:∃ k,belowS ⟨nk,vk,vn,vt,⟨r1,r2,r3,r4⟩,op,fn,nn⟩=k:=⟨_,rfl⟩
 rw [hk] at hc ⊢
 clear hk
 simp only [] at hc
 unfold ndA ndRow
 simp only []
 have H1:=Lib.hid ((Ok.start w).alloc w.heap.size 96 [.int .u8 nk,.int .u8 vk,.int .i64 vn,.string ⟨vt.toArray⟩,.int .i64 r1,.int .i64 r2,.int .i64 r3,.int .i64 r4,.int .i64 op,.int .u8 fn,.int .i64 nn] rfl)
 rcases hc with ⟨rfl,rfl⟩ | ⟨rfl,rfl⟩ | ⟨rfl,rfl⟩ | ⟨rfl,rfl⟩ | ⟨a4,a5,a6,a7,rfl⟩
 ·go_enter Tryz.func136,Tryz.ntmps136
  go_wp2_with fail
  go_ret
  exact ⟨rfl,H1.out.bel⟩
 ·go_enter Tryz.func136,Tryz.ntmps136
  go_wp2_with fail
  go_ret
  exact ⟨rfl,H1.out.bel⟩
 ·go_enter Tryz.func136,Tryz.ntmps136
  go_wp2_with fail
  go_ret
  exact ⟨rfl,H1.out.bel⟩
 ·go_enter Tryz.func136,Tryz.ntmps136
  go_wp2_with fail
  go_ret
  exact ⟨rfl,H1.out.bel⟩
 ·have b4:((nk:Int) == 4)=false:=by simp; omega
  have b5:((nk:Int) == 5)=false:=by simp; omega
  have b6:((nk:Int) == 6)=false:=by simp; omega
  have b7:((nk:Int) == 7)=false:=by simp; omega
  clear a4 a5 a6 a7
  go_enter Tryz.func136,Tryz.ntmps136
  go_wp2_with fail
  go_ret
  exact ⟨rfl,H1.out.bel⟩
theorem fits_drop (t:List Nd) (n:Nd) (l:List Pt) (i:Nat) (h:i<l.length):fitsF t n i (l.drop i)=(fit1 t n i l[i] && fitsF t n (i+1) (l.drop (i+1))):=by
 rw [List.drop_eq_getElem_cons h]
 rfl
theorem tree_fitsG (ts:List (List Value)) (t:List Nd) (n:Nd) (l:List Pt) (ta la:Option Addr) (tc lc:Nat) (w:World) (hts:ts.length=t.length) (hkd:∀ (i:Nat) (q:Nd),t[i]?=some q→∃ r:List Value,ts[i]?=some r∧r[0]?=some (.int .u8 (q.kind:Nat))) (ht:RowsAt w ta 11 ts) (hl:RowsAt w la 3 (l.map ptRow)) (_htl:t.length≤1000) (hll:l.length≤1000) (hroot:∀ p∈l,p.root<t.length) (hfn:n.kind=7→1≤n.fn∧n.fn≤50) :
  Calls Tryz.prog 137 #[.slice ta t.length tc,ndA n,.slice la l.length lc] w fun e w'=>e=.returned (.bool (fitsF t n 0 l))∧Below w.heap.size w w':=by
 have HR:=keep hroot
 have HT:=keep ht
 have HTS:=keep hts
 have HKD:=keep hkd
 clear hts hkd
 have HLR:=keep hl
 have HFN:=keep hfn
 clear hroot ht hl hfn
 obtain ⟨tl,htl2⟩:∃ tl,t.length=tl:=⟨_,rfl⟩
 obtain ⟨ll,hll2⟩:∃ ll,l.length=ll:=⟨_,rfl⟩
 rw [htl2]
 rw [hll2] at hll ⊢
 have HTL:=keep htl2
 have HLL:=keep hll2
 clear htl2 hll2
 obtain ⟨nd,hnd⟩:∃ nd,n=nd:=⟨_,rfl⟩
 have HND:=keep hnd
 obtain ⟨nk,vk,vn,vt,⟨r1,r2,r3,r4⟩,op,fn,nn⟩:=n
 clear hnd
 have HN:=keep (show ndA ⟨nk,vk,vn,vt,⟨r1,r2,r3,r4⟩,op,fn,nn⟩=.agg #[.int .u8 nk,.int .u8 vk,.int .i64 vn,.string ⟨vt.toArray⟩,.int .i64 r1,.int .i64 r2,.int .i64 r3,.int .i64 r4,.int .i64 op,.int .u8 fn,.int .i64 nn] from rfl)
 unfold ndA ndRow
 simp only []
 obtain ⟨FF,hFF⟩:∃ FF:Nat→List Pt→Bool,FF=fitsF t ⟨nk,vk,vn,vt,⟨r1,r2,r3,r4⟩,op,fn,nn⟩:=⟨_,rfl⟩
 have HFF:=keep hFF
 rw [← hFF]
 clear hFF
 simp only [] at HFN
 have H1:=Lib.hid ((Ok.start w).alloc w.heap.size 96 [.int .u8 nk,.int .u8 vk,.int .i64 vn,.string ⟨vt.toArray⟩,.int .i64 r1,.int .i64 r2,.int .i64 r3,.int .i64 r4,.int .i64 op,.int .u8 fn,.int .i64 nn] rfl)
 obtain ⟨V,hV⟩:∃ V,FF 0 l=V:=⟨_,rfl⟩
 rw [hV]
 have HV:=keep hV
 clear hV
 go_enter Tryz.func137,Tryz.ntmps137
 go_wp2_with fail
 generalize (w.alloc (.cells #[.int .u8 nk,.int .u8 vk,.int .i64 vn,.string ⟨vt.toArray⟩,.int .i64 r1,.int .i64 r2,.int .i64 r3,.int .i64 r4,.int .i64 op,.int .u8 fn,.int .i64 nn] 96))=W2 at H1 ⊢
 go_loopw [13] (fun iv wr=>∃ i:Nat,i≤ll∧iv=.int .i64 (i:Int)∧Keep (FF i (l.drop i)=V)∧Hid (Ok w [kBlk (w.heap.size) 96 [.int .u8 nk,.int .u8 vk,.int .i64 vn,.string ⟨vt.toArray⟩,.int .i64 r1,.int .i64 r2,.int .i64 r3,.int .i64 r4,.int .i64 op,.int .u8 fn,.int .i64 nn]] wr)) (fun iv _=>ll - (intOf iv).toNat)
 case atStart=>exact ⟨0,Nat.zero_le _,rfl,HV,H1⟩
 case round =>
  clear H1 HV
  obtain ⟨i,hi,rfl,HK,HW⟩:=hrel
  obtain ⟨wp,rfl⟩:∃ wp:World,wp=wr:=⟨_,rfl⟩
  by_cases hlt:(i:Int)<ll
  ·have hil:i<l.length:=by rw [HLL.out]; omega
   have HIL:=keep hil
   have hstep:=HK.out
   rw [HFF.out,fits_drop _ _ _ _ hil,← HFF.out] at hstep
   obtain ⟨p,hp⟩:∃ p,l[i]=p:=⟨_,rfl⟩
   rw [hp] at hstep
   have hpm:p∈l:=by rw [← hp]; exact List.getElem_mem _
   have hroot:=HR.out p hpm
   obtain ⟨lb,lo,hla,hlb,hlcell⟩:=HLR.out (by intro e; have h9:=congrArg List.length e; rw [List.length_map] at h9; simp only [List.length_nil] at h9; omega)
   have hlc:=hlcell i (ptRow p) (by rw [List.getElem?_map,List.getElem?_eq_getElem hil,hp]; rfl)
   obtain ⟨tb,tz,hta,htb,htcell⟩:=HT.out (by intro e; have h9:=congrArg List.length e; rw [HTS.out] at h9; simp only [List.length_nil] at h9; omega)
   obtain ⟨q,hq⟩:∃ q,t[p.root]=q:=⟨_,rfl⟩
   obtain ⟨rq,hrq,hrq0⟩:=HKD.out p.root q (by rw [List.getElem?_eq_getElem hroot,hq])
   have htc:=htcell p.root rq hrq 0 (.int .u8 (q.kind:Nat)) hrq0
   have hkat:kindAt t p.root=q.kind:=by unfold kindAt; rw [List.getElem?_eq_getElem hroot,hq]; rfl
   subst hla hta
   obtain ⟨pr,pd,pw⟩:=p
   simp only [] at htc hkat hroot
   have hbel:=HW.out.bel
   have hl0:=(hbel.cell hlb).trans (hlc 0 (.int .i64 (pr:Nat)) rfl)
   have hl1:=(hbel.cell hlb).trans (hlc 1 (.int .i64 (pd:Nat)) rfl)
   have hl2:=(hbel.cell hlb).trans (hlc 2 (.bool pw) rfl)
   have ht0:=(hbel.cell htb).trans htc
   simp only [Nat.add_zero] at hl0 ht0
   have hlbw:lb<wp.heap.size:=Nat.lt_of_lt_of_le hlb hbel.size
   have htbw:tb<wp.heap.size:=Nat.lt_of_lt_of_le htb hbel.size
   have hprt:(pr:Int)<tl:=by have:=HTL.out; omega
   obtain ⟨kq,hkq⟩:∃ kq,q.kind=kq:=⟨_,rfl⟩
   rw [hkq] at ht0 hkat
   have HST:=keep hstep
   have HKAT:=keep hkat
   have H1:=Lib.hid (((HW.out.add (kCells lb (lo+i * 3) [.int .i64 (pr:Nat),.int .i64 (pd:Nat),.bool pw]) ⟨hlbw,by simpa [cellsFrom] using hl0,by simpa [cellsFrom,Nat.add_assoc] using hl1,by simpa [cellsFrom,Nat.add_assoc] using hl2,trivial⟩).add (kCells tb (tz+pr * 11) [.int .u8 (kq:Nat)]) ⟨htbw,by simpa [cellsFrom] using ht0,trivial⟩))
   clear hil hstep hp hpm hlcell hlc htcell hq htc hkat hbel hl0 hl1 hl2 ht0 hlbw htbw hlb htb hkq HW
   have F3:=H1.out.sees
   simp only [sees,kBlk,kCells,cellsFrom,Nat.add_zero,cellsAt,Nat.reduceAdd] at F3
   obtain ⟨⟨z0,c00,-⟩,⟨z1,c10,c11,c12,-⟩,⟨z2,c20,c21,c22,c23,c24,c25,c26,c27,c28,c29,c2a,-⟩,-⟩:=F3
   go_upto_region 4 with fail
   clear z0 c00 z1 c10 c11 c12 z2 c20 c21 c22 c23 c24 c25 c26 c27 c28 c29 c2a
   have H4:=Lib.hid (H1.out.alloc wp.heap.size 176 [.int .i64 (pr:Nat),.int .i64 (pd:Nat),.bool pw] rfl)
   clear H1
   generalize (wp.alloc (.cells #[.int .i64 (pr:Nat),.int .i64 (pd:Nat),.bool pw] 176))=W5 at H4 ⊢
   have F6:=H4.out.sees
   simp only [sees,kBlk,kCells,cellsFrom,Nat.add_zero,cellsAt,Nat.reduceAdd] at F6
   obtain ⟨⟨z0,c00,c01,c02,-⟩,⟨z1,c10,-⟩,⟨z2,c20,c21,c22,-⟩,⟨z3,c30,c31,c32,c33,c34,c35,c36,c37,c38,c39,c3a,-⟩,-⟩:=F6
   by_cases h7:nk=7
   ·have h7b:((nk:Int) == 7)=true:=by rw [h7]; rfl
    have hfn:=HFN.out h7
    obtain ⟨hf1,hf2⟩:=hfn
    obtain ⟨wi,hwi⟩:∃ wi,wideS fn i=wi:=⟨_,rfl⟩
    have HWI:=keep hwi
    clear hwi
    obtain ⟨rl,hrl⟩:∃ rl,decide (46≤fn∧fn≤50)=rl:=⟨_,rfl⟩
    have HRL:=keep hrl
    clear hrl
    have HV7:=keep (show fit1 t ⟨nk,vk,vn,vt,⟨r1,r2,r3,r4⟩,op,fn,nn⟩ i ⟨pr,pd,pw⟩=(!(pw && !wi) && !(rl && decide (kq≠2∧kq≠3))) by unfold fit1 isCall relS; simp only [h7,HWI.out,HRL.out,HKAT.out,decide_true,Bool.true_and])
    clear h7
    go_wp2_with fail
    refine (tree_Wide fn i _ hf1 hf2).mono ?_
    rintro e w9 ⟨rfl,hw⟩
    obtain rfl:W5=w9:=hw.symm
    rw [HWI.out]
    cases hpw:(pw && !wi)
    ·have hpw2:pw=false∨wi=true:=by cases pw <;> cases wi <;> simp at hpw ⊢
     rcases hpw2 with rfl | rfl
     ·clear hpw
      go_wp2_with fail
      refine (tree_released fn _).mono ?_
      rintro e w10 ⟨rfl,hw⟩
      obtain rfl:W5=w10:=hw.symm
      rw [HRL.out]
      cases rl
      ·go_wp2_with fail
       go_roundw
       case rel=>exact ⟨i+1,by omega,by go_num,keep (by have h9:=HST.out; rw [show fit1 t _ i _=true by rw [HV7.out]; simp,Bool.true_and] at h9; exact h9),H4.out.drop _ (by simp)⟩
       case measure=>simp [intOf]; omega
      ·by_cases k2:kq=2
       ·have k2b:((kq:Int) != 2)=false:=by rw [k2]; rfl
        have KK:=keep k2
        clear k2
        go_wp2_with fail
        go_roundw
        case rel=>exact ⟨i+1,by omega,by go_num,keep (by have h9:=HST.out; rw [show fit1 t _ i _=true by rw [HV7.out]; simp [KK.out],Bool.true_and] at h9; exact h9),H4.out.drop _ (by simp)⟩
        case measure=>simp [intOf]; omega
       ·have k2b:((kq:Int) != 2)=true:=by simp; omega
        by_cases k3:kq=3
        ·have k3b:((kq:Int) != 3)=false:=by rw [k3]; rfl
         have KK:=keep k3
         clear k3 k2
         go_wp2_with fail
         go_roundw
         case rel=>exact ⟨i+1,by omega,by go_num,keep (by have h9:=HST.out; rw [show fit1 t _ i _=true by rw [HV7.out]; simp [KK.out],Bool.true_and] at h9; exact h9),H4.out.drop _ (by simp)⟩
         case measure=>simp [intOf]; omega
        ·have k3b:((kq:Int) != 3)=true:=by simp; omega
         have KK:=keep (And.intro k2 k3)
         clear k2 k3
         go_wp2_with fail
         go_ret
         exact ⟨by have h9:=HST.out; rw [show fit1 t _ i _=false by rw [HV7.out]; simp [KK.out.1,KK.out.2],Bool.false_and] at h9; rw [← h9]; rfl,H4.out.bel⟩
     ·clear hpw
      cases pw
      ·go_wp2_with fail
       refine (tree_released fn _).mono ?_
       rintro e w10 ⟨rfl,hw⟩
       obtain rfl:W5=w10:=hw.symm
       rw [HRL.out]
       cases rl
       ·go_wp2_with fail
        go_roundw
        case rel=>exact ⟨i+1,by omega,by go_num,keep (by have h9:=HST.out; rw [show fit1 t _ i _=true by rw [HV7.out]; simp,Bool.true_and] at h9; exact h9),H4.out.drop _ (by simp)⟩
        case measure=>simp [intOf]; omega
       ·by_cases k2:kq=2
        ·have k2b:((kq:Int) != 2)=false:=by rw [k2]; rfl
         have KK:=keep k2
         clear k2
         go_wp2_with fail
         go_roundw
         case rel=>exact ⟨i+1,by omega,by go_num,keep (by have h9:=HST.out; rw [show fit1 t _ i _=true by rw [HV7.out]; simp [KK.out],Bool.true_and] at h9; exact h9),H4.out.drop _ (by simp)⟩
         case measure=>simp [intOf]; omega
        ·have k2b:((kq:Int) != 2)=true:=by simp; omega
         by_cases k3:kq=3
         ·have k3b:((kq:Int) != 3)=false:=by rw [k3]; rfl
          have KK:=keep k3
          clear k3 k2
          go_wp2_with fail
          go_roundw
          case rel=>exact ⟨i+1,by omega,by go_num,keep (by have h9:=HST.out; rw [show fit1 t _ i _=true by rw [HV7.out]; simp [KK.out],Bool.true_and] at h9; exact h9),H4.out.drop _ (by simp)⟩
          case measure=>simp [intOf]; omega
         ·have k3b:((kq:Int) != 3)=true:=by simp; omega
          have KK:=keep (And.intro k2 k3)
          clear k2 k3
          go_wp2_with fail
          go_ret
          exact ⟨by have h9:=HST.out; rw [show fit1 t _ i _=false by rw [HV7.out]; simp [KK.out.1,KK.out.2],Bool.false_and] at h9; rw [← h9]; rfl,H4.out.bel⟩
      ·go_wp2_with fail
       refine (tree_released fn _).mono ?_
       rintro e w10 ⟨rfl,hw⟩
       obtain rfl:W5=w10:=hw.symm
       rw [HRL.out]
       cases rl
       ·go_wp2_with fail
        go_roundw
        case rel=>exact ⟨i+1,by omega,by go_num,keep (by have h9:=HST.out; rw [show fit1 t _ i _=true by rw [HV7.out]; simp,Bool.true_and] at h9; exact h9),H4.out.drop _ (by simp)⟩
        case measure=>simp [intOf]; omega
       ·by_cases k2:kq=2
        ·have k2b:((kq:Int) != 2)=false:=by rw [k2]; rfl
         have KK:=keep k2
         clear k2
         go_wp2_with fail
         go_roundw
         case rel=>exact ⟨i+1,by omega,by go_num,keep (by have h9:=HST.out; rw [show fit1 t _ i _=true by rw [HV7.out]; simp [KK.out],Bool.true_and] at h9; exact h9),H4.out.drop _ (by simp)⟩
         case measure=>simp [intOf]; omega
        ·have k2b:((kq:Int) != 2)=true:=by simp; omega
         by_cases k3:kq=3
         ·have k3b:((kq:Int) != 3)=false:=by rw [k3]; rfl
          have KK:=keep k3
          clear k3 k2
          go_wp2_with fail
          go_roundw
          case rel=>exact ⟨i+1,by omega,by go_num,keep (by have h9:=HST.out; rw [show fit1 t _ i _=true by rw [HV7.out]; simp [KK.out],Bool.true_and] at h9; exact h9),H4.out.drop _ (by simp)⟩
          case measure=>simp [intOf]; omega
         ·have k3b:((kq:Int) != 3)=true:=by simp; omega
          have KK:=keep (And.intro k2 k3)
          clear k2 k3
          go_wp2_with fail
          go_ret
          exact ⟨by have h9:=HST.out; rw [show fit1 t _ i _=false by rw [HV7.out]; simp [KK.out.1,KK.out.2],Bool.false_and] at h9; rw [← h9]; rfl,H4.out.bel⟩
    ·have hpw2:pw=true∧wi=false:=by cases pw <;> cases wi <;> simp at hpw ⊢
     obtain ⟨rfl,rfl⟩:=hpw2
     clear hpw
     go_wp2_with fail
     go_ret
     exact ⟨by have h9:=HST.out; rw [show fit1 t _ i _=false by rw [HV7.out]; simp,Bool.false_and] at h9; rw [← h9]; rfl,H4.out.bel⟩
   ·have h7b:((nk:Int) == 7)=false:=by simp; omega
    have HV7:=keep (show fit1 t ⟨nk,vk,vn,vt,⟨r1,r2,r3,r4⟩,op,fn,nn⟩ i ⟨pr,pd,pw⟩=!pw by unfold fit1 isCall; simp [h7])
    clear h7
    cases pw
    ·go_wp2_with fail
     go_roundw
     case rel=>exact ⟨i+1,by omega,by go_num,keep (by have h9:=HST.out; rw [show fit1 t _ i _=true by rw [HV7.out]; rfl,Bool.true_and] at h9; exact h9),H4.out.drop _ (by simp)⟩
     case measure=>simp [intOf]; omega
    ·go_wp2_with fail
     go_ret
     exact ⟨by have h9:=HST.out; rw [show fit1 t _ i _=false by rw [HV7.out]; rfl,Bool.false_and] at h9; rw [← h9]; rfl,H4.out.bel⟩
  ·obtain rfl:i=ll:=by omega
   have hend:=HK.out
   rw [HFF.out,List.drop_of_length_le (by rw [HLL.out]; exact Nat.le_refl _)] at hend
   have HE:=keep (show V=true from hend.symm)
   clear hend
   go_wp2_with fail
   go_ret
   exact ⟨by rw [HE.out]; rfl,HW.out.bel⟩
structure NdA where
 kind:Nat
 vk:Nat
 vn:Int
 vt:List UInt8
 r:R4
 op:Int
 fn:Nat
 n:Int
def NdA.nd (a:NdA):Nd:=⟨a.kind,a.vk,a.vn,a.vt,a.r,a.op,a.fn,a.n.toNat⟩
def aRow (a:NdA):List Value:=[.int .u8 a.kind,.int .u8 a.vk,.int .i64 a.vn,.string ⟨a.vt.toArray⟩,.int .i64 a.r.c1,.int .i64 a.r.r1,.int .i64 a.r.c2,.int .i64 a.r.r2,.int .i64 a.op,.int .u8 a.fn,.int .i64 a.n]
def aA (a:NdA):Value:=.agg (aRow a).toArray
def Nd.any (n:Nd):NdA:=⟨n.kind,n.vk,n.vn,n.vt,n.r,n.op,n.fn,(n.n:Int)⟩
theorem any_nd (n:Nd):n.any.nd=n:=by obtain ⟨a,b,c,d,e,f,g,h⟩:=n; rfl
def noV (a:NdA):Prop:=a.vk=0∧a.vn=0∧a.vt=[]
def noE (a:NdA):Prop:=a.op=0∧a.fn=0∧a.n=0
def okA (a:NdA):Prop :=
 (a.kind=1∧goodV a.vk a.vn a.vt∧a.r=R4.zero∧noE a) ∨
 (a.kind=2∧noV a∧checkB a.r=true∧(a.r.c1=a.r.c2∧a.r.r1=a.r.r2)∧noE a) ∨
 (a.kind=3∧noV a∧checkB a.r=true∧¬ (a.r.c1=a.r.c2∧a.r.r1=a.r.r2)∧noE a) ∨
 ((a.kind=4∨a.kind=5)∧noV a∧a.r=R4.zero∧noE a) ∨
 (a.kind=6∧noV a∧a.r=R4.zero∧(1≤a.op∧a.op≤12)∧a.fn=0∧a.n=0) ∨
 (a.kind=7∧noV a∧a.r=R4.zero∧a.op=0∧0≤a.n)
open Classical in
noncomputable def fieldsE (a:NdA):Int :=
 if okA a then (if a.kind=7 then (if a.fn=0∨50<a.fn then 10 else if a.n<((arS a.fn).1:Nat)∨((arS a.fn).2:Nat)<a.n then 11 else 0) else 0) else 2
theorem fields_bad {a:NdA} (h:¬ okA a):fieldsE a=2:=if_neg h
theorem fields_good {a:NdA} (h:okA a) (h7:a.kind≠7):fieldsE a=0:=by unfold fieldsE; rw [if_pos h,if_neg h7]
theorem fields_fn {a:NdA} (h:okA a) (h7:a.kind=7) (hf:a.fn=0∨50<a.fn):fieldsE a=10:=by unfold fieldsE; rw [if_pos h,if_pos h7,if_pos hf]
theorem fields_cnt {a:NdA} (h:okA a) (h7:a.kind=7) (hf:¬ (a.fn=0∨50<a.fn)) (hn:a.n<((arS a.fn).1:Nat)∨((arS a.fn).2:Nat)<a.n):fieldsE a=11:=by
 unfold fieldsE; rw [if_pos h,if_pos h7,if_neg hf,if_pos hn]
theorem fields_fit {a:NdA} (h:okA a) (h7:a.kind=7) (hf:¬ (a.fn=0∨50<a.fn)) (hn:¬ (a.n<((arS a.fn).1:Nat)∨((arS a.fn).2:Nat)<a.n)):fieldsE a=0:=by
 unfold fieldsE; rw [if_pos h,if_pos h7,if_neg hf,if_neg hn]
theorem fields_zero {a:NdA} (h:fieldsE a=0):goodNd a.nd∧0≤a.n∧a=a.nd.any:=by
 by_cases hok:okA a
 ·obtain ⟨k,vk,vn,vt,r,op,fn,n⟩:=a
  have key:goodNd (NdA.nd ⟨k,vk,vn,vt,r,op,fn,n⟩)∧0≤n:=by
   rcases hok with ⟨h1,hv,h2,h3,h4,h5⟩ | ⟨h1,⟨a1,a2,a3⟩,h2,h3,b1,b2,b3⟩ | ⟨h1,⟨a1,a2,a3⟩,h2,h3,b1,b2,b3⟩ | ⟨h1,⟨a1,a2,a3⟩,h2,b1,b2,b3⟩ | ⟨h1,⟨a1,a2,a3⟩,h2,h3,b2,b3⟩ | ⟨h1,⟨a1,a2,a3⟩,h2,b1,b3⟩
   ·simp only [] at h1 hv h2 h3 h4 h5
    subst h1 h2 h3 h4 h5
    exact ⟨.inl ⟨vk,vn,vt,rfl,hv⟩,Int.le_refl _⟩
   ·simp only [] at h1 a1 a2 a3 h2 h3 b1 b2 b3
    subst h1 a1 a2 a3 b1 b2 b3
    exact ⟨.inr (.inl ⟨r,rfl,h2,h3.1,h3.2⟩),Int.le_refl _⟩
   ·simp only [] at h1 a1 a2 a3 h2 h3 b1 b2 b3
    subst h1 a1 a2 a3 b1 b2 b3
    exact ⟨.inr (.inr (.inl ⟨r,rfl,h2,h3⟩)),Int.le_refl _⟩
   ·simp only [] at h1 a1 a2 a3 h2 b1 b2 b3
    subst a1 a2 a3 h2 b1 b2 b3
    rcases h1 with rfl | rfl
    ·exact ⟨.inr (.inr (.inr (.inl rfl))),Int.le_refl _⟩
    ·exact ⟨.inr (.inr (.inr (.inr (.inl rfl)))),Int.le_refl _⟩
   ·simp only [] at h1 a1 a2 a3 h2 h3 b2 b3
    subst h1 a1 a2 a3 h2 b2 b3
    exact ⟨.inr (.inr (.inr (.inr (.inr (.inl ⟨op,rfl,h3.1,h3.2⟩))))),Int.le_refl _⟩
   ·simp only [] at h1 a1 a2 a3 h2 b1 b3
    subst h1 a1 a2 a3 h2 b1
    by_cases hf:fn=0∨50<fn
    ·rw [fields_fn (.inr (.inr (.inr (.inr (.inr ⟨rfl,⟨rfl,rfl,rfl⟩,rfl,rfl,b3⟩))))) rfl hf] at h
     exact absurd h (by decide)
    by_cases hn:n<((arS fn).1:Nat)∨((arS fn).2:Nat)<n
    ·rw [fields_cnt (.inr (.inr (.inr (.inr (.inr ⟨rfl,⟨rfl,rfl,rfl⟩,rfl,rfl,b3⟩))))) rfl hf hn] at h
     exact absurd h (by decide)
    ·exact ⟨.inr (.inr (.inr (.inr (.inr (.inr ⟨fn,n.toNat,rfl,by omega,by omega,by omega,by omega⟩))))),b3⟩
  refine ⟨key.1,key.2,?_⟩
  have h2:0≤n:=key.2
  have:((n.toNat:Nat):Int)=n:=by omega
  unfold Nd.any NdA.nd
  simp only [this]
 ·rw [fields_bad hok] at h
  exact absurd h (by decide)
theorem good_fields {n:Nd} (h:goodNd n):fieldsE n.any=0:=by
 rcases h with ⟨vk,vn,vt,rfl,hv⟩ | ⟨r,rfl,h1,h2,h3⟩ | ⟨r,rfl,h1,h2⟩ | rfl | rfl | ⟨op,rfl,h1,h2⟩ | ⟨fn,k,rfl,h1,h2,h3,h4⟩
 ·exact fields_good (.inl ⟨rfl,hv,rfl,rfl,rfl,rfl⟩) (by decide:(1:Nat)≠7)
 ·exact fields_good (.inr (.inl ⟨rfl,⟨rfl,rfl,rfl⟩,h1,⟨h2,h3⟩,rfl,rfl,rfl⟩)) (by decide:(2:Nat)≠7)
 ·exact fields_good (.inr (.inr (.inl ⟨rfl,⟨rfl,rfl,rfl⟩,h1,h2,rfl,rfl,rfl⟩))) (by decide:(3:Nat)≠7)
 ·exact fields_good (.inr (.inr (.inr (.inl ⟨.inl rfl,⟨rfl,rfl,rfl⟩,rfl,rfl,rfl,rfl⟩)))) (by decide:(4:Nat)≠7)
 ·exact fields_good (.inr (.inr (.inr (.inl ⟨.inr rfl,⟨rfl,rfl,rfl⟩,rfl,rfl,rfl,rfl⟩)))) (by decide:(5:Nat)≠7)
 ·exact fields_good (.inr (.inr (.inr (.inr (.inl ⟨rfl,⟨rfl,rfl,rfl⟩,rfl,⟨h1,h2⟩,rfl,rfl⟩))))) (by decide:(6:Nat)≠7)
 ·refine fields_fit (.inr (.inr (.inr (.inr (.inr ⟨rfl,⟨rfl,rfl,rfl⟩,rfl,rfl,?_⟩))))) rfl ?_ ?_
  ·show (0:Int)≤(k:Int); omega
  ·show ¬ (fn=0∨50<fn); omega
  ·show ¬ ((k:Int)<((arS fn).1:Nat)∨((arS fn).2:Nat)<(k:Int)); omega
noncomputable def walkX (T:List Nd):Nat→List NdA→List Pt→Except Int (List Pt)
 | _,[],st=>.ok st
 | i,a::l,st=>if fieldsE a≠0 then .error (fieldsE a) else match stepW T st i a.nd with
  | .error e=>.error e
  | .ok st2=>walkX T (i+1) l st2
noncomputable def walkEX (t:List NdA):Int:=match walkX (t.map NdA.nd) 0 t [] with
 | .error e=>e
 | .ok st=>if st.length=1 then 0 else 4
noncomputable def checkA (t:List NdA):Int :=
 if 256<t.length then 5 else if t=[] then 4 else if walkEX t≠0 then walkEX t else if t.getLast?.map (·.kind)=some 3 then 4 else 0
theorem walkX_good (T:List Nd):∀ (l:List NdA) (i:Nat) (st:List Pt),(∀ a∈l,fieldsE a=0)→walkX T i l st=walkW T i (l.map NdA.nd) st
 | [],_,_,_=>rfl
 | a::l,i,st,h=>by
  rw [walkX,List.map_cons,walkW,if_neg (by rw [h a (by simp)]; decide)]
  cases stepW T st i a.nd with
  | error e=>rfl
  | ok st2=>exact walkX_good T l (i+1) st2 fun x hx=>h x (by simp [hx])
theorem walkX_ok (T:List Nd):∀ (l:List NdA) (i:Nat) (st st2:List Pt),walkX T i l st=.ok st2→∀ a∈l,fieldsE a=0
 | [],_,_,_,_=>by simp
 | a::l,i,st,st2,h=>by
  rw [walkX] at h
  by_cases h0:fieldsE a=0
  ·rw [if_neg (by rw [h0]; decide)] at h
   cases hs:stepW T st i a.nd with
   | error e=>rw [hs] at h; cases h
   | ok s1 =>
    rw [hs] at h
    intro x hx
    rcases List.mem_cons.1 hx with rfl | hx
    ·exact h0
    ·exact walkX_ok T l (i+1) s1 st2 h x hx
  ·rw [if_pos h0] at h; cases h
theorem walkX_err (T:List Nd):∀ (l:List NdA) (i:Nat) (st:List Pt) (c:Int),walkX T i l st=.error c→c≠0
 | [],_,_,_,h=>by rw [walkX] at h; cases h
 | a::l,i,st,c,h=>by
  rw [walkX] at h
  by_cases h0:fieldsE a=0
  ·rw [if_neg (by rw [h0]; decide)] at h
   cases hs:stepW T st i a.nd with
   | error e =>
    rw [hs] at h
    injection h with h
    subst h
    unfold stepW at hs
    split at hs
    ·injection hs with hs; omega
    split at hs
    ·injection hs with hs; omega
    split at hs
    ·injection hs with hs; omega
    ·cases hs
   | ok s1=>rw [hs] at h; exact walkX_err T l (i+1) s1 c h
  ·rw [if_pos h0] at h
   injection h with h
   rw [← h]; exact h0
theorem walkEX_zero {t:List NdA} (h:walkEX t=0):∃ st,walkX (t.map NdA.nd) 0 t []=.ok st∧st.length=1:=by
 unfold walkEX at h
 cases hw:walkX (t.map NdA.nd) 0 t [] with
 | error c=>rw [hw] at h; exact absurd h (walkX_err _ _ _ _ _ hw)
 | ok st =>
  rw [hw] at h
  refine ⟨st,rfl,?_⟩
  simp only [] at h
  split at h
  ·assumption
  ·exact absurd h (by decide)
theorem walkEX_good {t:List NdA} (h:∀ a∈t,fieldsE a=0):walkEX t=walkE (t.map NdA.nd):=by
 unfold walkEX walkE
 rw [walkX_good _ _ _ _ h]
 cases walkW (t.map NdA.nd) 0 (t.map NdA.nd) [] <;> rfl
theorem checkA_good {t:List NdA} (h:∀ a∈t,fieldsE a=0):checkA t=checkS (t.map NdA.nd):=by
 unfold checkA checkS
 rw [walkEX_good h,List.length_map,List.getLast?_map,Option.map_map]
 have e:(t=[])=(t.map NdA.nd=[]):=by simp
 simp only [e]
 rfl
theorem checkA_zero {t:List NdA} (h:checkA t=0):(∀ a∈t,fieldsE a=0)∧checkS (t.map NdA.nd)=0∧t≠[]∧t.length≤256∧∃ p,walkX (t.map NdA.nd) 0 t []=.ok [p]:=by
 have h1:¬ 256<t.length:=by intro g; unfold checkA at h; rw [if_pos g] at h; exact absurd h (by decide)
 have h2:¬ t=[]:=by intro g; unfold checkA at h; rw [if_neg h1,if_pos g] at h; exact absurd h (by decide)
 have h3:walkEX t=0:=by
  apply Classical.byContradiction
  intro g
  unfold checkA at h
  rw [if_neg h1,if_neg h2,if_pos g] at h
  exact g h
 obtain ⟨st,hw,hl⟩:=walkEX_zero h3
 have hg:=walkX_ok _ _ _ _ _ hw
 refine ⟨hg,by rw [← checkA_good hg]; exact h,h2,by omega,?_⟩
 obtain ⟨p,rfl⟩:=List.length_eq_one_iff.1 hl
 exact ⟨p,hw⟩
theorem map_any (l:List Nd):(l.map Nd.any).map NdA.nd=l:=by
 rw [List.map_map]
 conv=>rhs; rw [← List.map_id l]
 exact List.map_congr_left fun n _=>any_nd n
theorem checkA_any {l:List Nd} (h:∀ n∈l,goodNd n):checkA (l.map Nd.any)=checkS l:=by
 rw [checkA_good,map_any]
 intro a ha
 obtain ⟨n,hn,rfl⟩:=List.mem_map.1 ha
 exact good_fields (h n hn)
