/- Contracts of louvre/group.Meet and louvre/group.Has: they return the bitwise meet and the bit that is asked for. Condition of Meet: the cells of the slice hold 64-bit numbers. The iterator members and its closure: it hands out the bits of its set, ascending. Condition: the library's table of TrailingZeros64. -/
import Derived.Test.YtjbimcdofenmdaaGreatDoorKit
import Derived.Test.YtjbimcdofenmdaaGreatDoorIter
import Derived.Test.YtjbimcdofenmdaaGreatDoorTz
namespace Go.Proofs.YtjbimcdofenmdaaGreatDoor
open Go.RowKit
def hasB (s : Nat) (u : Int) : Bool:=decide (0 ≤ u ∧ u < 64) && s.testBit u.toNat
theorem has_word (s : Nat) (k : Nat) (hs : s < 18446744073709551616) : (bits BinOp.and IntKind.u64 ((s : Int) / 2 ^ k) 1 == 1) = s.testBit k:=by
  have e : ((s : Int) / 2 ^ k) = ((s / 2 ^ k : Nat) : Int):=by simp
  have h:=u64_and_nat (s / 2 ^ k) 1 (Nat.lt_of_le_of_lt (Nat.div_le_self _ _) hs) (by decide)
  rw [e,show (1 : Int) = ((1 : Nat) : Int) from rfl,h,nat_mask1,Nat.testBit_eq_decide_div_mod_eq]
  rw [Bool.eq_iff_iff]; simp; omega
theorem has_any (s : Int) (u : Int) (w : World) (h0 : 0 ≤ s) (h1 : s < 18446744073709551616) :
    Calls Tryz.prog 48 #[.int .u64 s,.int .i64 u] w fun e w' => e = .returned (.bool (hasB s.toNat u)) ∧ w = w':=by
  obtain ⟨s,rfl⟩:=Int.eq_ofNat_of_zero_le h0
  have hs : s < 18446744073709551616:=by omega
  rw [Int.toNat_natCast]
  by_cases a : 0 ≤ u
  · by_cases b : u < 64
    · go_enter Tryz.func48,Tryz.ntmps48
      go_wp2
      go_ret
      refine ⟨?_,rfl⟩
      simp only [Array.getD_eq_getD_getElem?]
      have:=has_word s u.toNat hs
      simp [hasB,a,b,this]
    · go_enter Tryz.func48,Tryz.ntmps48
      go_wp2
      go_ret
      exact ⟨by simp [hasB]; intro; omega,rfl⟩
  · go_enter Tryz.func48,Tryz.ntmps48
    go_wp2
    go_ret
    exact ⟨by simp [hasB]; omega,rfl⟩
end Go.Proofs.YtjbimcdofenmdaaGreatDoor
namespace Go.Proofs.YtjbimcdofenmdaaGreatDoor
open Go.RowKit
attribute [local go_sem] Oper.semAt_some
theorem u64_clear (s : Nat) (h0 : s ≠ 0) (hs : s < 18446744073709551616) : bits BinOp.and IntKind.u64 (s : Int) ((s : Int) - 1) = ((s &&& (s - 1) : Nat) : Int):=by
  have e : (s : Int) - 1 = ((s - 1 : Nat) : Int):=by omega
  rw [e]
  exact u64_and_nat s (s - 1) hs (by omega)
def natAt (W : World) (o : Nat) : Nat:=match W.cell? ⟨o,0,none⟩ with
  | some (.int _ n) => n.toNat
  | _ => 0
theorem natAt_of {W : World} {o k : Nat} {t : TypeId} (h : Boxed W o t (.int .u64 k)) : natAt W o = k:=by unfold natAt; rw [h.cell]; simp
set_option maxRecDepth 100000 in
set_option maxHeartbeats 2000000 in
theorem members_hands (m : Nat) (hm : 2 ≤ m) (o s : Nat) (w : World) (hs : s < 18446744073709551616) (hB : Boxed w o 24 (.int .u64 s)) :
    Hands Fence.wide m Tryz.prog 74 #[.pointer (some ⟨o,0,none⟩)] o Bru (bitsL s) w:=by
  intro l J W hK hset hdrew hY ho h0
  have hBW : Boxed W o 24 (.int .u64 s):=ho.trans hB
  have HK:=Lib.hid hK
  have HS:=Lib.hid hset
  have HY:=Lib.hid hY
  have h1 : 1 ≤ m - 1:=by omega
  clear hK hset hdrew hY ho hB
  refine callsIn_of_wp Tryz.func74 rfl trivial ?_ rfl
  simp only [Tryz.ntmps74,List.size_toArray,List.length_cons,List.length_nil,Nat.reduceAdd,Nat.reduceSub,Array.replicate_succ,Array.replicate_zero,List.push_toArray,List.append_toArray,List.nil_append,List.cons_append]
  gi_wp2
  gi_loopw [3] (fun _ wr => ∃ (pre : List Int) (k : Nat),Hid (k < 18446744073709551616 ∧ bitsL s = pre ++ bitsL k) ∧ Hid (Boxed wr o 24 (.int .u64 k)) ∧ Hid (J pre wr)) (fun _ wr => natAt wr o)
  case atStart => exact ⟨[],s,⟨hs,(List.nil_append _).symm⟩,hBW,h0⟩
  case round =>
    obtain ⟨pre,k,HX,HB,HJ⟩:=hrel
    have hc:=HB.out.cell
    have hf:=HB.out.frozen
    by_cases hk : k = 0
    · subst hk
      gi_wp2
      go_end0
      refine ⟨⟨_,rfl⟩,?_⟩
      have:=HX.out.2
      rw [bitsL_zero,List.append_nil] at this
      rw [this]
      exact HJ.out
    · have hk' : ((k : Int) != 0) = true:=by simpa using hk
      obtain ⟨fn,tmps,assign,body,hy,hR⟩:=HY.out pre (Lib.ctz 64 k) wr HJ.out ⟨bitsL (k &&& (k - 1)),by rw [List.append_assoc,List.singleton_append,← bitsL_next k hk HX.out.1]; exact HX.out.2.symm⟩
      gi_wp2_with fail
      refine ⟨trivial,fun _ => by omega,((callsIn_wide (n:=m - 1)).2 (tz64 k HX.out.1 _ (HK.out _ _ HJ.out))).mono ?_⟩
      rintro e w' ⟨rfl,rfl⟩
      gi_wp2
      refine ⟨fun _ => by omega,hR.mono ?_⟩
      rintro e W3 ⟨rfl,hJ3,ho3⟩
      have hB3 : Boxed W3 o 24 (.int .u64 k):=ho3.trans HB.out
      have hc3:=hB3.cell
      have hf3:=hB3.frozen
      have hk1 : (1 : Int) ≤ k:=by omega
      have hk2 : (k : Int) ≤ 18446744073709551615:=by have:=HX.out.1; omega
      have HCL:=Lib.hid (u64_clear k hk HX.out.1)
      have HK0:=Lib.hid hk
      clear hk hc hf hy hR ho3
      gi_wp2
      go_roundw
      case rel =>
        have hlt:=clear_lt k HK0.out
        refine ⟨pre ++ [(Lib.ctz 64 k : Int)],k &&& (k - 1),⟨by have:=HX.out.1; omega,?_⟩,?_,HS.out _ _ _ hJ3⟩
        · rw [List.append_assoc,List.singleton_append,← bitsL_next k HK0.out HX.out.1]
          exact HX.out.2
        · show Boxed _ _ _ _
          rw [← HCL.out]
          exact hB3.set _
      case measure =>
        have hb : Boxed (W3.setCell ⟨o,0,none⟩ (.int .u64 (bits BinOp.and IntKind.u64 (k : Int) ((k : Int) - 1)))) o 24 (.int .u64 ((k &&& (k - 1) : Nat) : Int)):=by
          rw [← HCL.out]
          exact hB3.set _
        rw [natAt_of HB.out,natAt_of hb]
        exact clear_lt k HK0.out
theorem group_members (s : Nat) (w : World) :
    Calls Tryz.prog 47 #[.int .u64 s] w fun e w' => e = .returned (.func (.func 74) #[] #[.pointer (some ⟨w.heap.size,0,none⟩)]) ∧ w' = w.alloc (.cells #[.int .u64 s] 24):=by
  go_enter Tryz.func47,Tryz.ntmps47
  go_wp2
  go_ret
  exact ⟨rfl,rfl⟩
end Go.Proofs.YtjbimcdofenmdaaGreatDoor
