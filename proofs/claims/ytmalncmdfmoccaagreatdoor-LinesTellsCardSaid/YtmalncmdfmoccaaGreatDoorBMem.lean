/- Contracts of package addr's reader: read, its method add, Parse and Column. Contracts of package addr's reader: read, Parse and Column. Contracts of package addr's Parse and Column. Contracts of package addr's and its reference's small functions: Less, Index. Contracts of package rect's Meet and of its reference. Contracts of package rect's rest, Minus and Area, and of the reference's. Contracts of Minus, package rect's and the reference's, and of the kit's EqualRects. Contracts of package addr's At and Letters and of their references. A loop over an iterator that writes no captured cell: one value a round, nobody leaves early (XIter's like). No program stands here. The iterator members and its closure: it hands out the bits of its set, ascending. Condition: the library's table of TrailingZeros64. -/
import Derived.Test.YtmalncmdfmoccaaGreatDoorBKit
import Derived.Test.YtmalncmdfmoccaaGreatDoorBAddrP
import Derived.Test.YtmalncmdfmoccaaGreatDoorBCut
import Derived.Lib.SmallJoins
import Derived.Shelf.Strings.Cut
import Derived.Shelf.Strings.Search2
import Derived.Shelf.Strconv.Itoa3
import Derived.Lib.AppendIntMem
import Derived.BigRegion
import Derived.Test.YtmalncmdfmoccaaGreatDoorBRectW
import Derived.Test.YtmalncmdfmoccaaGreatDoorBMapK
import Derived.Deep.AppendLies
import Derived.Deep.Onto
import Derived.Deep.RegionHeld3
import Derived.Test.YtmalncmdfmoccaaGreatDoorBIter
import Derived.RangeFuncNested
import Derived.RangeFuncBound
import Derived.RangeFuncCalls
import Derived.RangeFuncLeaves
import Derived.RangeFuncBox
import Derived.Shelf.Abstract
import Derived.OwnWalkIn
import Derived.TacticsInMore
import Derived.LoopNIn
import Derived.LoopIn
import Derived.Maps.AppendAt
import Derived.Test.YtmalncmdfmoccaaGreatDoorBTz
namespace Go.Proofs.YtmalncmdfmoccaaGreatDoor
section
open Go.RowKit
end
section
open Go.RowKit
end
section
open Go.RowKit
end
end Go.Proofs.YtmalncmdfmoccaaGreatDoor
namespace Go.Proofs.YtmalncmdfmoccaaGreatDoor
open Go.RowKit
end Go.Proofs.YtmalncmdfmoccaaGreatDoor
namespace Go.Proofs.YtmalncmdfmoccaaGreatDoor
section
open Go.RowKit
end
section
open Go.RowKit
end
section
open Go.RowKit
end
end Go.Proofs.YtmalncmdfmoccaaGreatDoor
namespace Go.Proofs.YtmalncmdfmoccaaGreatDoor
open Go.RowKit
theorem encode_small (n : Nat) (h : n < 128) : Utf8.encode (n : Int) = ⟨#[UInt8.ofNat n]⟩:=by
  have hv : Utf8.valid (n : Int) = true:=by simp [Utf8.valid]; omega
  simp only [Utf8.encode,hv,if_true,Int.toNat_natCast]
  rw [if_pos (by omega)]
theorem bytes_append (x y : List UInt8) : ((⟨x.toArray⟩ : ByteArray) ++ ⟨y.toArray⟩) = ⟨(x ++ y).toArray⟩:=ByteArray.mk_append_mk x y
theorem lettersC_bad (c : Int) (h : ¬ (1 ≤ c ∧ c ≤ 1024)) : lettersC c = ([],3):=by unfold lettersC; rw [if_neg h]
theorem lettersC_good (n : Nat) (h : 1 ≤ (n : Int) ∧ (n : Int) ≤ 1024) : lettersC n = (lettersN n,0):=by unfold lettersC; rw [if_pos h,Int.toNat_natCast]
theorem letter_step (n m : Nat) (acc : List UInt8) (h : lettersN n = lettersN m ++ acc) (h0 : 0 < m) : lettersN n = lettersN ((m - 1) / 26) ++ (UInt8.ofNat (65 + (m - 1) % 26) :: acc):=by
  rw [h,lettersN_pos m h0]; simp
theorem addr_Letters (c : Int) (w : World) (_h0 : -9223372036854775808 ≤ c) (_h1 : c ≤ 9223372036854775807) :
    Calls Tryz.prog 192 #[.int .i64 c] w fun e w' => e = .returned (.tuple #[.string ⟨(lettersC c).1.toArray⟩,.int .i64 (lettersC c).2]) ∧ w = w':=by
  rcases (show c < 1 ∨ (1 ≤ c ∧ 1024 < c) ∨ (1 ≤ c ∧ c ≤ 1024) from by omega) with h | ⟨h0,h⟩ | ⟨h0,h⟩
  · rw [lettersC_bad c (by omega)]
    go_enter Tryz.func192,Tryz.ntmps192
    go_wp2
    go_ret2
    exact ⟨rfl,rfl⟩
  · rw [lettersC_bad c (by omega)]
    go_enter Tryz.func192,Tryz.ntmps192
    go_wp2
    go_ret2
    exact ⟨rfl,rfl⟩
  · obtain ⟨n,rfl⟩:=Int.eq_ofNat_of_zero_le (show 0 ≤ c from by omega)
    rw [lettersC_good n ⟨h0,h⟩]
    go_enter Tryz.func192,Tryz.ntmps192
    go_wp2
    go_loop [0,4] (fun k s => ∃ (m : Nat) (acc : List UInt8),m ≤ n ∧ acc.length + m ≤ 1024 ∧ k = .int .i64 m ∧ s = .string ⟨acc.toArray⟩ ∧ lettersN n = lettersN m ++ acc) (fun k _ => (intOf k).toNat)
    case atStart => exact ⟨n,[],Nat.le_refl _,by simp; omega,rfl,rfl,by simp⟩
    case round =>
      obtain ⟨m,acc,hm,hl,rfl,rfl,hacc⟩:=hrel
      have HA:=Lib.hid hacc
      clear hacc
      rcases Nat.eq_zero_or_pos m with h0 | h0
      · subst h0
        go_wp2
        go_ret2
        have e:=HA.out
        rw [lettersN_zero,List.nil_append] at e
        rw [e]
        exact ⟨rfl,rfl⟩
      · have henc : Utf8.encode (65 + ((m : Int) - 1) % 26) = ⟨#[65 + UInt8.ofNat ((m - 1) % 26)]⟩:=by
          rw [show (65 + ((m : Int) - 1) % 26) = ((65 + (m - 1) % 26 : Nat) : Int) from by omega,encode_small _ (by omega)]; simp
        go_wp2
        go_round
        case measure => simp [intOf]; omega
        case rel =>
          refine ⟨(m - 1) / 26,(65 + UInt8.ofNat ((m - 1) % 26)) :: acc,by omega,by simp; omega,by congr 1; omega,congrArg Value.string (bytes_append [_] acc),?_⟩
          have:=letter_step n m acc HA.out h0
          rwa [show UInt8.ofNat (65 + (m - 1) % 26) = 65 + UInt8.ofNat ((m - 1) % 26) from by simp] at this
end Go.Proofs.YtmalncmdfmoccaaGreatDoor
namespace Go.Proofs.YtmalncmdfmoccaaGreatDoor
open Go.RowKit
end Go.Proofs.YtmalncmdfmoccaaGreatDoor
namespace Go.Proofs.YtmalncmdfmoccaaGreatDoor
open Go.RowKit
attribute [local go_sem] Oper.semAt_some
theorem u64_clear (s : Nat) (h0 : s ≠ 0) (hs : s < 18446744073709551616) : bits BinOp.and IntKind.u64 (s : Int) ((s : Int) - 1) = ((s &&& (s - 1) : Nat) : Int):=by
  have e : (s : Int) - 1 = ((s - 1 : Nat) : Int):=by omega
  rw [e]
  exact u64_and_nat s (s - 1) hs (by omega)
def natAt (W : World) (o : Nat) : Nat:=match W.cell? ⟨o,0,none⟩ with
  | some (.int _ n) => n.toNat
  | _ => 0
theorem natAt_of {W : World} {o k : Nat} {t : TypeId} (h : Boxed W o t (.int .u64 k)) : natAt W o = k:=by unfold natAt; rw [h.cell]; simp
set_option maxRecDepth 100000 in
set_option maxHeartbeats 2000000 in
theorem members_hands (m : Nat) (hm : 2 ≤ m) (o s : Nat) (w : World) (hs : s < 18446744073709551616) (hB : Boxed w o 50 (.int .u64 s)) :
    Hands Fence.wide m Tryz.prog 149 #[.pointer (some ⟨o,0,none⟩)] o Bru (bitsL s) w:=by
  intro l J W hK hset hdrew hY ho h0
  have hBW : Boxed W o 50 (.int .u64 s):=ho.trans hB
  have HK:=Lib.hid hK
  have HS:=Lib.hid hset
  have HY:=Lib.hid hY
  have h1 : 1 ≤ m - 1:=by omega
  clear hK hset hdrew hY ho hB
  refine callsIn_of_wp Tryz.func149 rfl trivial ?_ rfl
  simp only [Tryz.ntmps149,List.size_toArray,List.length_cons,List.length_nil,Nat.reduceAdd,Nat.reduceSub,Array.replicate_succ,Array.replicate_zero,List.push_toArray,List.append_toArray,List.nil_append,List.cons_append]
  gi_wp2
  gi_loopw [3] (fun _ wr => ∃ (pre : List Int) (k : Nat),Hid (k < 18446744073709551616 ∧ bitsL s = pre ++ bitsL k) ∧ Hid (Boxed wr o 50 (.int .u64 k)) ∧ Hid (J pre wr)) (fun _ wr => natAt wr o)
  case atStart => exact ⟨[],s,⟨hs,(List.nil_append _).symm⟩,hBW,h0⟩
  case round =>
    obtain ⟨pre,k,HX,HB,HJ⟩:=hrel
    have hc:=HB.out.cell
    have hf:=HB.out.frozen
    by_cases hk : k = 0
    · subst hk
      gi_wp2
      go_end0
      refine ⟨⟨_,rfl⟩,?_⟩
      have:=HX.out.2
      rw [bitsL_zero,List.append_nil] at this
      rw [this]
      exact HJ.out
    · have hk' : ((k : Int) != 0) = true:=by simpa using hk
      obtain ⟨fn,tmps,assign,body,hy,hR⟩:=HY.out pre (Lib.ctz 64 k) wr HJ.out ⟨bitsL (k &&& (k - 1)),by rw [List.append_assoc,List.singleton_append,← bitsL_next k hk HX.out.1]; exact HX.out.2.symm⟩
      gi_wp2_with fail
      refine ⟨trivial,fun _ => by omega,((callsIn_wide (n:=m - 1)).2 (tz64 k HX.out.1 _ (HK.out _ _ HJ.out))).mono ?_⟩
      rintro e w' ⟨rfl,rfl⟩
      gi_wp2
      refine ⟨fun _ => by omega,hR.mono ?_⟩
      rintro e W3 ⟨rfl,hJ3,ho3⟩
      have hB3 : Boxed W3 o 50 (.int .u64 k):=ho3.trans HB.out
      have hc3:=hB3.cell
      have hf3:=hB3.frozen
      have hk1 : (1 : Int) ≤ k:=by omega
      have hk2 : (k : Int) ≤ 18446744073709551615:=by have:=HX.out.1; omega
      have HCL:=Lib.hid (u64_clear k hk HX.out.1)
      have HK0:=Lib.hid hk
      clear hk hc hf hy hR ho3
      gi_wp2
      go_roundw
      case rel =>
        have hlt:=clear_lt k HK0.out
        refine ⟨pre ++ [(Lib.ctz 64 k : Int)],k &&& (k - 1),⟨by have:=HX.out.1; omega,?_⟩,?_,HS.out _ _ _ hJ3⟩
        · rw [List.append_assoc,List.singleton_append,← bitsL_next k HK0.out HX.out.1]
          exact HX.out.2
        · show Boxed _ _ _ _
          rw [← HCL.out]
          exact hB3.set _
      case measure =>
        have hb : Boxed (W3.setCell ⟨o,0,none⟩ (.int .u64 (bits BinOp.and IntKind.u64 (k : Int) ((k : Int) - 1)))) o 50 (.int .u64 ((k &&& (k - 1) : Nat) : Int)):=by
          rw [← HCL.out]
          exact hB3.set _
        rw [natAt_of HB.out,natAt_of hb]
        exact clear_lt k HK0.out
theorem group_members (s : Nat) (w : World) :
    Calls Tryz.prog 103 #[.int .u64 s] w fun e w' => e = .returned (.func (.func 149) #[] #[.pointer (some ⟨w.heap.size,0,none⟩)]) ∧ w' = w.alloc (.cells #[.int .u64 s] 50):=by
  go_enter Tryz.func103,Tryz.ntmps103
  go_wp2
  go_ret
  exact ⟨rfl,rfl⟩
end Go.Proofs.YtmalncmdfmoccaaGreatDoor
