/- Contracts of tree.below and tree.fits. -/
import Derived.Test.YtnbemkiplnanlaaGreatDoorMTreA
import Derived.Test.YtnbemkiplnanlaaGreatDoorMParK
namespace Go.Proofs.YtnbemkiplnanlaaGreatDoor
set_option maxRecDepth 100000
set_option maxHeartbeats 4000000
open Go.RowKit
def RowsAt (w : World) (a : Option Addr) (s : Nat) (l : List (List Value)) : Prop :=
 l ≠ [] → ∃ b o,a = some ⟨b,o,none⟩ ∧ b < w.heap.size ∧ ∀ i r,l[i]? = some r → ∀ j v,r[j]? = some v → w.cell? ⟨b,o + (i * s + j),none⟩ = some v
theorem RowsAt.below {w w' : World} {a : Option Addr} {s : Nat} {l : List (List Value)} (h : RowsAt w a s l) (hb : Below w.heap.size w w') : RowsAt w' a s l:=by
 intro hl
 obtain ⟨b,o,e,h1,h2⟩:=h hl
 exact ⟨b,o,e,Nat.lt_of_lt_of_le h1 hb.size,fun i r hi j v hj => (hb.cell h1).trans (h2 i r hi j v hj)⟩
def ptRow (p : Pt) : List Value:=[.int .i64 (p.root : Nat),.int .i64 (p.depth : Nat),.bool p.wide]
def ptCells (l : List Pt) : List Value:=l.flatMap ptRow
theorem below_cases (n : Nd) : (n.kind = 4 ∧ belowS n = 1) ∨ (n.kind = 5 ∧ belowS n = 1) ∨ (n.kind = 6 ∧ belowS n = 2) ∨ (n.kind = 7 ∧ belowS n = n.n) ∨ (n.kind ≠ 4 ∧ n.kind ≠ 5 ∧ n.kind ≠ 6 ∧ n.kind ≠ 7 ∧ belowS n = 0):=by
 unfold belowS
 by_cases h4 : n.kind = 4
 ·exact .inl ⟨h4,if_pos (.inl h4)⟩
 ·by_cases h5 : n.kind = 5
  ·exact .inr (.inl ⟨h5,if_pos (.inr h5)⟩)
  ·rw [if_neg (by omega)]
   by_cases h6 : n.kind = 6
   ·exact .inr (.inr (.inl ⟨h6,if_pos h6⟩))
   ·rw [if_neg h6]
    by_cases h7 : n.kind = 7
    ·exact .inr (.inr (.inr (.inl ⟨h7,if_pos h7⟩)))
    ·exact .inr (.inr (.inr (.inr ⟨h4,h5,h6,h7,if_neg h7⟩)))
theorem tree_below (n : Nd) (w : World) :
  Calls Tryz.prog 183 #[ndA n] w fun e w' => e = .returned (.int .i64 (belowS n : Nat)) ∧ Below w.heap.size w w':=by
 have hc:=below_cases n
 obtain ⟨nk,vk,vn,vt,⟨r1,r2,r3,r4⟩,op,fn,nn⟩:=n
 obtain ⟨k,hk⟩ : ∃ k,belowS ⟨nk,vk,vn,vt,⟨r1,r2,r3,r4⟩,op,fn,nn⟩ = k:=⟨_,rfl⟩
 rw [hk] at hc ⊢
 clear hk
 simp only [] at hc
 unfold ndA ndRow
 simp only []
 have H1:=Lib.hid ((Ok.start w).alloc w.heap.size 41 [.int .u8 nk,.int .u8 vk,.int .i64 vn,.string ⟨vt.toArray⟩,.int .i64 r1,.int .i64 r2,.int .i64 r3,.int .i64 r4,.int .i64 op,.int .u8 fn,.int .i64 nn] rfl)
 rcases hc with ⟨rfl,rfl⟩ | ⟨rfl,rfl⟩ | ⟨rfl,rfl⟩ | ⟨rfl,rfl⟩ | ⟨a4,a5,a6,a7,rfl⟩
 ·go_enter Tryz.func183,Tryz.ntmps183
  go_wp2_with fail
  go_ret
  exact ⟨rfl,H1.out.bel⟩
 ·go_enter Tryz.func183,Tryz.ntmps183
  go_wp2_with fail
  go_ret
  exact ⟨rfl,H1.out.bel⟩
 ·go_enter Tryz.func183,Tryz.ntmps183
  go_wp2_with fail
  go_ret
  exact ⟨rfl,H1.out.bel⟩
 ·go_enter Tryz.func183,Tryz.ntmps183
  go_wp2_with fail
  go_ret
  exact ⟨rfl,H1.out.bel⟩
 ·have b4 : ((nk : Int) == 4) = false:=by simp; omega
  have b5 : ((nk : Int) == 5) = false:=by simp; omega
  have b6 : ((nk : Int) == 6) = false:=by simp; omega
  have b7 : ((nk : Int) == 7) = false:=by simp; omega
  clear a4 a5 a6 a7
  go_enter Tryz.func183,Tryz.ntmps183
  go_wp2_with fail
  go_ret
  exact ⟨rfl,H1.out.bel⟩
theorem fits_drop (t : List Nd) (n : Nd) (l : List Pt) (i : Nat) (h : i < l.length) : fitsF t n i (l.drop i) = (fit1 t n i l[i] && fitsF t n (i + 1) (l.drop (i + 1))):=by
 rw [List.drop_eq_getElem_cons h]
 rfl
theorem tree_fitsG (ts : List (List Value)) (t : List Nd) (n : Nd) (l : List Pt) (ta la : Option Addr) (tc lc : Nat) (w : World) (hts : ts.length = t.length) (hkd : ∀ (i : Nat) (q : Nd),t[i]? = some q → ∃ r : List Value,ts[i]? = some r ∧ r[0]? = some (.int .u8 (q.kind : Nat))) (ht : RowsAt w ta 11 ts) (hl : RowsAt w la 3 (l.map ptRow)) (_htl : t.length ≤ 1000) (hll : l.length ≤ 1000) (hroot : ∀ p ∈ l,p.root < t.length) (hfn : n.kind = 7 → 1 ≤ n.fn ∧ n.fn ≤ 50) :
  Calls Tryz.prog 184 #[.slice ta t.length tc,ndA n,.slice la l.length lc] w fun e w' => e = .returned (.bool (fitsF t n 0 l)) ∧ Below w.heap.size w w':=by
 have HR:=keep hroot
 have HT:=keep ht
 have HTS:=keep hts
 have HKD:=keep hkd
 clear hts hkd
 have HLR:=keep hl
 have HFN:=keep hfn
 clear hroot ht hl hfn
 obtain ⟨tl,htl2⟩ : ∃ tl,t.length = tl:=⟨_,rfl⟩
 obtain ⟨ll,hll2⟩ : ∃ ll,l.length = ll:=⟨_,rfl⟩
 rw [htl2]
 rw [hll2] at hll ⊢
 have HTL:=keep htl2
 have HLL:=keep hll2
 clear htl2 hll2
 obtain ⟨nd,hnd⟩ : ∃ nd,n = nd:=⟨_,rfl⟩
 have HND:=keep hnd
 obtain ⟨nk,vk,vn,vt,⟨r1,r2,r3,r4⟩,op,fn,nn⟩:=n
 clear hnd
 have HN:=keep (show ndA ⟨nk,vk,vn,vt,⟨r1,r2,r3,r4⟩,op,fn,nn⟩ = .agg #[.int .u8 nk,.int .u8 vk,.int .i64 vn,.string ⟨vt.toArray⟩,.int .i64 r1,.int .i64 r2,.int .i64 r3,.int .i64 r4,.int .i64 op,.int .u8 fn,.int .i64 nn] from rfl)
 unfold ndA ndRow
 simp only []
 obtain ⟨FF,hFF⟩ : ∃ FF : Nat → List Pt → Bool,FF = fitsF t ⟨nk,vk,vn,vt,⟨r1,r2,r3,r4⟩,op,fn,nn⟩:=⟨_,rfl⟩
 have HFF:=keep hFF
 rw [← hFF]
 clear hFF
 simp only [] at HFN
 have H1:=Lib.hid ((Ok.start w).alloc w.heap.size 41 [.int .u8 nk,.int .u8 vk,.int .i64 vn,.string ⟨vt.toArray⟩,.int .i64 r1,.int .i64 r2,.int .i64 r3,.int .i64 r4,.int .i64 op,.int .u8 fn,.int .i64 nn] rfl)
 obtain ⟨V,hV⟩ : ∃ V,FF 0 l = V:=⟨_,rfl⟩
 rw [hV]
 have HV:=keep hV
 clear hV
 go_enter Tryz.func184,Tryz.ntmps184
 go_wp2_with fail
 generalize (w.alloc (.cells #[.int .u8 nk,.int .u8 vk,.int .i64 vn,.string ⟨vt.toArray⟩,.int .i64 r1,.int .i64 r2,.int .i64 r3,.int .i64 r4,.int .i64 op,.int .u8 fn,.int .i64 nn] 41)) = W2 at H1 ⊢
 go_loopw [13] (fun iv wr => ∃ i : Nat,i ≤ ll ∧ iv = .int .i64 (i : Int) ∧ Keep (FF i (l.drop i) = V) ∧ Hid (Ok w [kBlk (w.heap.size) 41 [.int .u8 nk,.int .u8 vk,.int .i64 vn,.string ⟨vt.toArray⟩,.int .i64 r1,.int .i64 r2,.int .i64 r3,.int .i64 r4,.int .i64 op,.int .u8 fn,.int .i64 nn]] wr)) (fun iv _ => ll - (intOf iv).toNat)
 case atStart => exact ⟨0,Nat.zero_le _,rfl,HV,H1⟩
 case round =>
  clear H1 HV
  obtain ⟨i,hi,rfl,HK,HW⟩:=hrel
  obtain ⟨wp,rfl⟩ : ∃ wp : World,wp = wr:=⟨_,rfl⟩
  by_cases hlt : (i : Int) < ll
  ·have hil : i < l.length:=by rw [HLL.out]; omega
   have HIL:=keep hil
   have hstep:=HK.out
   rw [HFF.out,fits_drop _ _ _ _ hil,← HFF.out] at hstep
   obtain ⟨p,hp⟩ : ∃ p,l[i] = p:=⟨_,rfl⟩
   rw [hp] at hstep
   have hpm : p ∈ l:=by rw [← hp]; exact List.getElem_mem _
   have hroot:=HR.out p hpm
   obtain ⟨lb,lo,hla,hlb,hlcell⟩:=HLR.out (by intro e; have h9:=congrArg List.length e; rw [List.length_map] at h9; simp only [List.length_nil] at h9; omega)
   have hlc:=hlcell i (ptRow p) (by rw [List.getElem?_map,List.getElem?_eq_getElem hil,hp]; rfl)
   obtain ⟨tb,tz,hta,htb,htcell⟩:=HT.out (by intro e; have h9:=congrArg List.length e; rw [HTS.out] at h9; simp only [List.length_nil] at h9; omega)
   obtain ⟨q,hq⟩ : ∃ q,t[p.root] = q:=⟨_,rfl⟩
   obtain ⟨rq,hrq,hrq0⟩:=HKD.out p.root q (by rw [List.getElem?_eq_getElem hroot,hq])
   have htc:=htcell p.root rq hrq 0 (.int .u8 (q.kind : Nat)) hrq0
   have hkat : kindAt t p.root = q.kind:=by unfold kindAt; rw [List.getElem?_eq_getElem hroot,hq]; rfl
   subst hla hta
   obtain ⟨pr,pd,pw⟩:=p
   simp only [] at htc hkat hroot
   have hbel:=HW.out.bel
   have hl0:=(hbel.cell hlb).trans (hlc 0 (.int .i64 (pr : Nat)) rfl)
   have hl1:=(hbel.cell hlb).trans (hlc 1 (.int .i64 (pd : Nat)) rfl)
   have hl2:=(hbel.cell hlb).trans (hlc 2 (.bool pw) rfl)
   have ht0:=(hbel.cell htb).trans htc
   simp only [Nat.add_zero] at hl0 ht0
   have hlbw : lb < wp.heap.size:=Nat.lt_of_lt_of_le hlb hbel.size
   have htbw : tb < wp.heap.size:=Nat.lt_of_lt_of_le htb hbel.size
   have hprt : (pr : Int) < tl:=by have:=HTL.out; omega
   obtain ⟨kq,hkq⟩ : ∃ kq,q.kind = kq:=⟨_,rfl⟩
   rw [hkq] at ht0 hkat
   have HST:=keep hstep
   have HKAT:=keep hkat
   have H1:=Lib.hid (((HW.out.add (kCells lb (lo + i * 3) [.int .i64 (pr : Nat),.int .i64 (pd : Nat),.bool pw]) ⟨hlbw,by simpa [cellsFrom] using hl0,by simpa [cellsFrom,Nat.add_assoc] using hl1,by simpa [cellsFrom,Nat.add_assoc] using hl2,trivial⟩).add (kCells tb (tz + pr * 11) [.int .u8 (kq : Nat)]) ⟨htbw,by simpa [cellsFrom] using ht0,trivial⟩))
   clear hil hstep hp hpm hlcell hlc htcell hq htc hkat hbel hl0 hl1 hl2 ht0 hlbw htbw hlb htb hkq HW
   have F3:=H1.out.sees
   simp only [sees,kBlk,kCells,cellsFrom,Nat.add_zero,cellsAt,Nat.reduceAdd] at F3
   obtain ⟨⟨z0,c0_0,-⟩,⟨z1,c1_0,c1_1,c1_2,-⟩,⟨z2,c2_0,c2_1,c2_2,c2_3,c2_4,c2_5,c2_6,c2_7,c2_8,c2_9,c2_10,-⟩,-⟩:=F3
   go_upto_region 4 with fail
   clear z0 c0_0 z1 c1_0 c1_1 c1_2 z2 c2_0 c2_1 c2_2 c2_3 c2_4 c2_5 c2_6 c2_7 c2_8 c2_9 c2_10
   have H4:=Lib.hid (H1.out.alloc wp.heap.size 204 [.int .i64 (pr : Nat),.int .i64 (pd : Nat),.bool pw] rfl)
   clear H1
   generalize (wp.alloc (.cells #[.int .i64 (pr : Nat),.int .i64 (pd : Nat),.bool pw] 204)) = W5 at H4 ⊢
   have F6:=H4.out.sees
   simp only [sees,kBlk,kCells,cellsFrom,Nat.add_zero,cellsAt,Nat.reduceAdd] at F6
   obtain ⟨⟨z0,c0_0,c0_1,c0_2,-⟩,⟨z1,c1_0,-⟩,⟨z2,c2_0,c2_1,c2_2,-⟩,⟨z3,c3_0,c3_1,c3_2,c3_3,c3_4,c3_5,c3_6,c3_7,c3_8,c3_9,c3_10,-⟩,-⟩:=F6
   by_cases h7 : nk = 7
   ·have h7b : ((nk : Int) == 7) = true:=by rw [h7]; rfl
    have hfn:=HFN.out h7
    obtain ⟨hf1,hf2⟩:=hfn
    obtain ⟨wi,hwi⟩ : ∃ wi,wideS fn i = wi:=⟨_,rfl⟩
    have HWI:=keep hwi
    clear hwi
    obtain ⟨rl,hrl⟩ : ∃ rl,decide (46 ≤ fn ∧ fn ≤ 50) = rl:=⟨_,rfl⟩
    have HRL:=keep hrl
    clear hrl
    have HV7:=keep (show fit1 t ⟨nk,vk,vn,vt,⟨r1,r2,r3,r4⟩,op,fn,nn⟩ i ⟨pr,pd,pw⟩ = (!(pw && !wi) && !(rl && decide (kq ≠ 2 ∧ kq ≠ 3))) by unfold fit1 isCall relS; simp only [h7,HWI.out,HRL.out,HKAT.out,decide_true,Bool.true_and])
    clear h7
    go_wp2_with fail
    refine (tree_Wide fn i _ hf1 hf2).mono ?_
    rintro e w9 ⟨rfl,hw⟩
    obtain rfl : W5 = w9:=hw.symm
    rw [HWI.out]
    cases hpw : (pw && !wi)
    ·have hpw2 : pw = false ∨ wi = true:=by cases pw <;> cases wi <;> simp at hpw ⊢
     rcases hpw2 with rfl | rfl
     ·clear hpw
      go_wp2_with fail
      refine (tree_released fn _).mono ?_
      rintro e w10 ⟨rfl,hw⟩
      obtain rfl : W5 = w10:=hw.symm
      rw [HRL.out]
      cases rl
      ·go_wp2_with fail
       go_roundw
       case rel => exact ⟨i + 1,by omega,by go_num,keep (by have h9:=HST.out; rw [show fit1 t _ i _ = true by rw [HV7.out]; simp,Bool.true_and] at h9; exact h9),H4.out.drop _ (by simp)⟩
       case measure => simp [intOf]; omega
      ·by_cases k2 : kq = 2
       ·have k2b : ((kq : Int) != 2) = false:=by rw [k2]; rfl
        have KK:=keep k2
        clear k2
        go_wp2_with fail
        go_roundw
        case rel => exact ⟨i + 1,by omega,by go_num,keep (by have h9:=HST.out; rw [show fit1 t _ i _ = true by rw [HV7.out]; simp [KK.out],Bool.true_and] at h9; exact h9),H4.out.drop _ (by simp)⟩
        case measure => simp [intOf]; omega
       ·have k2b : ((kq : Int) != 2) = true:=by simp; omega
        by_cases k3 : kq = 3
        ·have k3b : ((kq : Int) != 3) = false:=by rw [k3]; rfl
         have KK:=keep k3
         clear k3 k2
         go_wp2_with fail
         go_roundw
         case rel => exact ⟨i + 1,by omega,by go_num,keep (by have h9:=HST.out; rw [show fit1 t _ i _ = true by rw [HV7.out]; simp [KK.out],Bool.true_and] at h9; exact h9),H4.out.drop _ (by simp)⟩
         case measure => simp [intOf]; omega
        ·have k3b : ((kq : Int) != 3) = true:=by simp; omega
         have KK:=keep (And.intro k2 k3)
         clear k2 k3
         go_wp2_with fail
         go_ret
         exact ⟨by have h9:=HST.out; rw [show fit1 t _ i _ = false by rw [HV7.out]; simp [KK.out.1,KK.out.2],Bool.false_and] at h9; rw [← h9]; rfl,H4.out.bel⟩
     ·clear hpw
      cases pw
      ·go_wp2_with fail
       refine (tree_released fn _).mono ?_
       rintro e w10 ⟨rfl,hw⟩
       obtain rfl : W5 = w10:=hw.symm
       rw [HRL.out]
       cases rl
       ·go_wp2_with fail
        go_roundw
        case rel => exact ⟨i + 1,by omega,by go_num,keep (by have h9:=HST.out; rw [show fit1 t _ i _ = true by rw [HV7.out]; simp,Bool.true_and] at h9; exact h9),H4.out.drop _ (by simp)⟩
        case measure => simp [intOf]; omega
       ·by_cases k2 : kq = 2
        ·have k2b : ((kq : Int) != 2) = false:=by rw [k2]; rfl
         have KK:=keep k2
         clear k2
         go_wp2_with fail
         go_roundw
         case rel => exact ⟨i + 1,by omega,by go_num,keep (by have h9:=HST.out; rw [show fit1 t _ i _ = true by rw [HV7.out]; simp [KK.out],Bool.true_and] at h9; exact h9),H4.out.drop _ (by simp)⟩
         case measure => simp [intOf]; omega
        ·have k2b : ((kq : Int) != 2) = true:=by simp; omega
         by_cases k3 : kq = 3
         ·have k3b : ((kq : Int) != 3) = false:=by rw [k3]; rfl
          have KK:=keep k3
          clear k3 k2
          go_wp2_with fail
          go_roundw
          case rel => exact ⟨i + 1,by omega,by go_num,keep (by have h9:=HST.out; rw [show fit1 t _ i _ = true by rw [HV7.out]; simp [KK.out],Bool.true_and] at h9; exact h9),H4.out.drop _ (by simp)⟩
          case measure => simp [intOf]; omega
         ·have k3b : ((kq : Int) != 3) = true:=by simp; omega
          have KK:=keep (And.intro k2 k3)
          clear k2 k3
          go_wp2_with fail
          go_ret
          exact ⟨by have h9:=HST.out; rw [show fit1 t _ i _ = false by rw [HV7.out]; simp [KK.out.1,KK.out.2],Bool.false_and] at h9; rw [← h9]; rfl,H4.out.bel⟩
      ·go_wp2_with fail
       refine (tree_released fn _).mono ?_
       rintro e w10 ⟨rfl,hw⟩
       obtain rfl : W5 = w10:=hw.symm
       rw [HRL.out]
       cases rl
       ·go_wp2_with fail
        go_roundw
        case rel => exact ⟨i + 1,by omega,by go_num,keep (by have h9:=HST.out; rw [show fit1 t _ i _ = true by rw [HV7.out]; simp,Bool.true_and] at h9; exact h9),H4.out.drop _ (by simp)⟩
        case measure => simp [intOf]; omega
       ·by_cases k2 : kq = 2
        ·have k2b : ((kq : Int) != 2) = false:=by rw [k2]; rfl
         have KK:=keep k2
         clear k2
         go_wp2_with fail
         go_roundw
         case rel => exact ⟨i + 1,by omega,by go_num,keep (by have h9:=HST.out; rw [show fit1 t _ i _ = true by rw [HV7.out]; simp [KK.out],Bool.true_and] at h9; exact h9),H4.out.drop _ (by simp)⟩
         case measure => simp [intOf]; omega
        ·have k2b : ((kq : Int) != 2) = true:=by simp; omega
         by_cases k3 : kq = 3
         ·have k3b : ((kq : Int) != 3) = false:=by rw [k3]; rfl
          have KK:=keep k3
          clear k3 k2
          go_wp2_with fail
          go_roundw
          case rel => exact ⟨i + 1,by omega,by go_num,keep (by have h9:=HST.out; rw [show fit1 t _ i _ = true by rw [HV7.out]; simp [KK.out],Bool.true_and] at h9; exact h9),H4.out.drop _ (by simp)⟩
          case measure => simp [intOf]; omega
         ·have k3b : ((kq : Int) != 3) = true:=by simp; omega
          have KK:=keep (And.intro k2 k3)
          clear k2 k3
          go_wp2_with fail
          go_ret
          exact ⟨by have h9:=HST.out; rw [show fit1 t _ i _ = false by rw [HV7.out]; simp [KK.out.1,KK.out.2],Bool.false_and] at h9; rw [← h9]; rfl,H4.out.bel⟩
    ·have hpw2 : pw = true ∧ wi = false:=by cases pw <;> cases wi <;> simp at hpw ⊢
     obtain ⟨rfl,rfl⟩:=hpw2
     clear hpw
     go_wp2_with fail
     go_ret
     exact ⟨by have h9:=HST.out; rw [show fit1 t _ i _ = false by rw [HV7.out]; simp,Bool.false_and] at h9; rw [← h9]; rfl,H4.out.bel⟩
   ·have h7b : ((nk : Int) == 7) = false:=by simp; omega
    have HV7:=keep (show fit1 t ⟨nk,vk,vn,vt,⟨r1,r2,r3,r4⟩,op,fn,nn⟩ i ⟨pr,pd,pw⟩ = !pw by unfold fit1 isCall; simp [h7])
    clear h7
    cases pw
    ·go_wp2_with fail
     go_roundw
     case rel => exact ⟨i + 1,by omega,by go_num,keep (by have h9:=HST.out; rw [show fit1 t _ i _ = true by rw [HV7.out]; rfl,Bool.true_and] at h9; exact h9),H4.out.drop _ (by simp)⟩
     case measure => simp [intOf]; omega
    ·go_wp2_with fail
     go_ret
     exact ⟨by have h9:=HST.out; rw [show fit1 t _ i _ = false by rw [HV7.out]; rfl,Bool.false_and] at h9; rw [← h9]; rfl,H4.out.bel⟩
  ·obtain rfl : i = ll:=by omega
   have hend:=HK.out
   rw [HFF.out,List.drop_of_length_le (by rw [HLL.out]; exact Nat.le_refl _)] at hend
   have HE:=keep (show V = true from hend.symm)
   clear hend
   go_wp2_with fail
   go_ret
   exact ⟨by rw [HE.out]; rfl,HW.out.bel⟩
end Go.Proofs.YtnbemkiplnanlaaGreatDoor
