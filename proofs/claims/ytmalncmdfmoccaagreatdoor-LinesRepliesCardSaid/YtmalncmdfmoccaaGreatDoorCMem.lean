/- A loop over an iterator that writes no captured cell: one value a round, nobody leaves early (XIter's like). No program stands here. The iterator members and its closure: it hands out the bits of its set, ascending. Condition: the library's table of TrailingZeros64. A region that draws its order, in a round of a range over a function: walked by the rules of plain regions. No program stands here. Contracts of package rect's Meet and of its reference. Contracts of package rect's rest, Minus and Area, and of the reference's. Contracts of Minus, package rect's and the reference's, and of the kit's EqualRects. Contracts of Has, One and Inside, package rect's and the reference's. The contract of group.Members: the bits of the set, ascending, in new memory. Condition: the library's table of TrailingZeros64.  -/
import Derived.Test.YtmalncmdfmoccaaGreatDoorCIter
import Derived.RangeFuncNested
import Derived.RangeFuncBound
import Derived.RangeFuncCalls
import Derived.RangeFuncLeaves
import Derived.RangeFuncBox
import Derived.Shelf.Abstract
import Derived.OwnWalkIn
import Derived.TacticsInMore
import Derived.LoopNIn
import Derived.LoopIn
import Derived.Maps.AppendAt
import Derived.Test.YtmalncmdfmoccaaGreatDoorCTz
import Derived.Test.YtmalncmdfmoccaaGreatDoorCOk
import Derived.Test.YtmalncmdfmoccaaGreatDoorCHtl
import Derived.Deep.AppendLies
import Derived.Deep.Onto
import Derived.Deep.RegionHeld3
import Derived.Test.YtmalncmdfmoccaaGreatDoorCShelf
namespace Go.Proofs.YtmalncmdfmoccaaGreatDoor
open Go.RowKit
end Go.Proofs.YtmalncmdfmoccaaGreatDoor
namespace Go.Proofs.YtmalncmdfmoccaaGreatDoor
open Go.RowKit
attribute [local go_sem] Oper.semAt_some
theorem u64_clear (s : Nat) (h0 : s ≠ 0) (hs : s < 18446744073709551616) : bits BinOp.and IntKind.u64 (s : Int) ((s : Int) - 1) = ((s &&& (s - 1) : Nat) : Int):=by
  have e : (s : Int) - 1 = ((s - 1 : Nat) : Int):=by omega
  rw [e]
  exact u64_and_nat s (s - 1) hs (by omega)
def natAt (W : World) (o : Nat) : Nat:=match W.cell? ⟨o,0,none⟩ with
  | some (.int _ n) => n.toNat
  | _ => 0
theorem natAt_of {W : World} {o k : Nat} {t : TypeId} (h : Boxed W o t (.int .u64 k)) : natAt W o = k:=by unfold natAt; rw [h.cell]; simp
set_option maxRecDepth 100000 in
set_option maxHeartbeats 2000000 in
theorem members_hands (m : Nat) (hm : 2 ≤ m) (o s : Nat) (w : World) (hs : s < 18446744073709551616) (hB : Boxed w o 50 (.int .u64 s)) :
    Hands Fence.wide m Tryz.prog 149 #[.pointer (some ⟨o,0,none⟩)] o Bru (bitsL s) w:=by
  intro l J W hK hset hdrew hY ho h0
  have hBW : Boxed W o 50 (.int .u64 s):=ho.trans hB
  have HK:=Lib.hid hK
  have HS:=Lib.hid hset
  have HY:=Lib.hid hY
  have h1 : 1 ≤ m - 1:=by omega
  clear hK hset hdrew hY ho hB
  refine callsIn_of_wp Tryz.func149 rfl trivial ?_ rfl
  simp only [Tryz.ntmps149,List.size_toArray,List.length_cons,List.length_nil,Nat.reduceAdd,Nat.reduceSub,Array.replicate_succ,Array.replicate_zero,List.push_toArray,List.append_toArray,List.nil_append,List.cons_append]
  gi_wp2
  gi_loopw [3] (fun _ wr => ∃ (pre : List Int) (k : Nat),Hid (k < 18446744073709551616 ∧ bitsL s = pre ++ bitsL k) ∧ Hid (Boxed wr o 50 (.int .u64 k)) ∧ Hid (J pre wr)) (fun _ wr => natAt wr o)
  case atStart => exact ⟨[],s,⟨hs,(List.nil_append _).symm⟩,hBW,h0⟩
  case round =>
    obtain ⟨pre,k,HX,HB,HJ⟩:=hrel
    have hc:=HB.out.cell
    have hf:=HB.out.frozen
    by_cases hk : k = 0
    · subst hk
      gi_wp2
      go_end0
      refine ⟨⟨_,rfl⟩,?_⟩
      have:=HX.out.2
      rw [bitsL_zero,List.append_nil] at this
      rw [this]
      exact HJ.out
    · have hk' : ((k : Int) != 0) = true:=by simpa using hk
      obtain ⟨fn,tmps,assign,body,hy,hR⟩:=HY.out pre (Lib.ctz 64 k) wr HJ.out ⟨bitsL (k &&& (k - 1)),by rw [List.append_assoc,List.singleton_append,← bitsL_next k hk HX.out.1]; exact HX.out.2.symm⟩
      gi_wp2_with fail
      refine ⟨trivial,fun _ => by omega,((callsIn_wide (n:=m - 1)).2 (tz64 k HX.out.1 _ (HK.out _ _ HJ.out))).mono ?_⟩
      rintro e w' ⟨rfl,rfl⟩
      gi_wp2
      refine ⟨fun _ => by omega,hR.mono ?_⟩
      rintro e W3 ⟨rfl,hJ3,ho3⟩
      have hB3 : Boxed W3 o 50 (.int .u64 k):=ho3.trans HB.out
      have hc3:=hB3.cell
      have hf3:=hB3.frozen
      have hk1 : (1 : Int) ≤ k:=by omega
      have hk2 : (k : Int) ≤ 18446744073709551615:=by have:=HX.out.1; omega
      have HCL:=Lib.hid (u64_clear k hk HX.out.1)
      have HK0:=Lib.hid hk
      clear hk hc hf hy hR ho3
      gi_wp2
      go_roundw
      case rel =>
        have hlt:=clear_lt k HK0.out
        refine ⟨pre ++ [(Lib.ctz 64 k : Int)],k &&& (k - 1),⟨by have:=HX.out.1; omega,?_⟩,?_,HS.out _ _ _ hJ3⟩
        · rw [List.append_assoc,List.singleton_append,← bitsL_next k HK0.out HX.out.1]
          exact HX.out.2
        · show Boxed _ _ _ _
          rw [← HCL.out]
          exact hB3.set _
      case measure =>
        have hb : Boxed (W3.setCell ⟨o,0,none⟩ (.int .u64 (bits BinOp.and IntKind.u64 (k : Int) ((k : Int) - 1)))) o 50 (.int .u64 ((k &&& (k - 1) : Nat) : Int)):=by
          rw [← HCL.out]
          exact hB3.set _
        rw [natAt_of HB.out,natAt_of hb]
        exact clear_lt k HK0.out
theorem group_members (s : Nat) (w : World) :
    Calls Tryz.prog 103 #[.int .u64 s] w fun e w' => e = .returned (.func (.func 149) #[] #[.pointer (some ⟨w.heap.size,0,none⟩)]) ∧ w' = w.alloc (.cells #[.int .u64 s] 50):=by
  go_enter Tryz.func103,Tryz.ntmps103
  go_wp2
  go_ret
  exact ⟨rfl,rfl⟩
end Go.Proofs.YtmalncmdfmoccaaGreatDoor
namespace Go.Proofs.YtmalncmdfmoccaaGreatDoor
open Go.RowKit
def notDefer (o : Oper) : Bool:=match o.op with
  | .defer _ => false
  | _ => true
theorem notDefer_ne {o : Oper} (h : notDefer o = true) : ∀ c,o.op ≠ .defer c:=fun c e => by
  unfold notDefer at h; rw [e] at h; cases h
theorem steps_round {P : Program} {m m' : Machine} (l : Nat) (h : Steps P m m') : StepsIn (Machine.fenced P (Fence.wide.inRound l)) P m m':=stepsIn_wide.2 h
theorem oper_round {n : Nat} {P : Program} {o : Oper} {a : Act} {w : World} {K : Act → World → Prop} {Q : Exit → Act → World → Prop} (l : Nat) (hd : ∀ c,o.op ≠ .defer c) (h : o.wp P a w K Q) : o.wpIn (Fence.wide.inRound l) n P a w K Q:=by
  unfold Oper.wpIn
  unfold Oper.wp at h
  refine ⟨fun _ _ => trivial,?_⟩
  rw [Oper.semAt_eq _ _ _ hd]
  generalize (execOp a.eval o).run P w = r at *
  cases r with
  | ok x w' =>
    cases x with
    | value v => exact h
    | skip => exact h
    | defer d => exact h
    | enter f args => exact ⟨fun h0 => by simp [Fence.wide] at h0,CallsIn.inRound l (callsIn_wide.2 h)⟩
    | row row args => exact ⟨fun h0 => by simp [Fence.wide] at h0,fun c cs _ => let ⟨v,w',r,s⟩:=h c cs; ⟨v,w',r,steps_round l s⟩⟩
    | _ => exact h.elim
  | halt x w' => cases x <;> first | exact h | exact h.elim
theorem wpOp_round {n : Nat} {P : Program} {ops : Array Oper} {Q : Exit → Act → World → Prop} {i : Nat} {K : Act → World → Prop} {a : Act} {w : World} (l : Nat) (hd : ∀ (j : Nat) o,ops[j]? = some o → ∀ c,o.op ≠ .defer c) (hQ : ¬ LetsOut Q)
    (h : wpOp P ops Q i K a w) : wpOpIn (Fence.wide.inRound l) n P ops Q i K a w:=by
  unfold wpOpIn
  unfold wpOp at h
  cases ho : ops[i]? with
  | none => rw [ho] at h; exact h
  | some o =>
    rw [ho] at h
    simp only at h ⊢
    split
    · next hw =>
      rw [if_pos hw] at h
      rcases h with h | h
      · exact oper_round l (hd i o ho) h
      · exact absurd h.2 hQ
    · next hw =>
      rw [if_neg hw] at h
      exact ⟨fun _ _ => trivial,h⟩
theorem wpAny_round {n : Nat} {P : Program} {md : Region.Mode} {ops : Array Oper} {Q : Exit → Act → World → Prop} (l : Nat) (hd : ∀ (j : Nat) o,ops[j]? = some o → ∀ c,o.op ≠ .defer c) (hQ : ¬ LetsOut Q) :
    ∀ (fuel : Nat) (listed : Array Bool) (a : Act) (w : World),wpAny P md ops Q fuel listed a w → wpAnyIn (Fence.wide.inRound l) n P md ops Q fuel listed a w
  | 0,_,_,_,h => h
  | fuel + 1,_,_,_,h => ⟨h.1,fun i hi => wpOp_round l hd hQ (wpOp_mono (fun a' w' h' => wpAny_round l hd hQ fuel _ a' w' h') (h.2 i hi))⟩
def OnlyN (Q : Exit → Act → World → Prop) : Exit → Act → World → Prop
  | .normal,a,w => Q .normal a w
  | _,_,_ => False
theorem onlyN_lets (Q : Exit → Act → World → Prop) : ¬ LetsOut (OnlyN Q):=fun ⟨_,_,h⟩ => h
theorem onlyN_imp (Q : Exit → Act → World → Prop) : ∀ e a w,OnlyN Q e a w → Q e a w:=fun e a w h => by cases e <;> first | exact h | exact h.elim
theorem wpIn_region_plain {l n : Nat} {P : Program} {id : Nat} {ops : Array Oper} {Q : Exit → Act → World → Prop} {a : Act} {w : World} (hm : P.follows .mixedOrders = true) (hd : ops.all notDefer = true)
    (h : wpAny P .any ops (OnlyN Q) ops.size (Array.replicate ops.size false) a w.drew) : (Code.region id ops true).wpIn (Fence.wide.inRound l) n P Q a w :=
  wpIn_mono (wpIn_region_any hm (wpAny_round l (fun j o ho => notDefer_ne (by
    rw [Array.all_eq_true] at hd
    obtain ⟨hj,e⟩:=Array.getElem?_eq_some_iff.1 ho
    rw [← e]; exact hd j hj)) (onlyN_lets Q) _ _ _ _ h)) (onlyN_imp Q)
end Go.Proofs.YtmalncmdfmoccaaGreatDoor
namespace Go.Proofs.YtmalncmdfmoccaaGreatDoor
section
open Go.RowKit
end
section
open Go.RowKit
end
section
open Go.RowKit
end
end Go.Proofs.YtmalncmdfmoccaaGreatDoor
namespace Go.Proofs.YtmalncmdfmoccaaGreatDoor
open Go.RowKit
theorem ref_One (c t : Int) (w : World) :
    Calls Tryz.prog 113 #[.agg #[.int .i64 c,.int .i64 t]] w fun e w' => e = .returned (.agg #[.int .i64 c,.int .i64 t,.int .i64 c,.int .i64 t]) ∧ Below w.heap.size w w':=by
  go_enter Tryz.func113,Tryz.ntmps113
  go_wp2
  refine bodyPost_ret (v:=.agg #[.int .i64 c,.int .i64 t,.int .i64 c,.int .i64 t]) (by simp [results,Tryz.results113,go_sem]) rfl ⟨rfl,?_⟩
  first
    | exact ((Below.refl _ _).alloc (Nat.le_refl _) _)
    | exact (((Below.refl _ _).alloc (Nat.le_refl _) _).alloc (by simp) _)
    | exact ((((((((Below.refl _ _).alloc (Nat.le_refl _) _).alloc (by simp) _)).setCell (by simp) _).setCell (by simp) _).setCell (by simp) _).setCell (by simp) _)
end Go.Proofs.YtmalncmdfmoccaaGreatDoor
namespace Go.Proofs.YtmalncmdfmoccaaGreatDoor
open Go.RowKit
attribute [local go_sem] Oper.semAt_some
def intsV (l : List Int) : List Value:=l.map fun x => .int .i64 x
def Collects (w : World) (o : Nat) (pre : List Int) (W : World) : Prop :=
  (∃ v,Boxed W w.heap.size 312 v ∧ W.ownsRow w.heap.size 3 1 v pre.length (intsV pre)) ∧ Below w.heap.size w W ∧ ∃ u,Boxed W o 50 u
section
variable {w W : World} {o : Nat} {pre : List Int}
theorem Collects.put (h : Collects w o pre W) {l : Nat} {ob : Obj} (ob' : Obj) (hw : w.heap.size < l) (ho : o < l) (hl : W.heap[l]? = some ob) (hc : ob.isCells = false) : Collects w o pre (W.putObj l ob'):=by
  obtain ⟨⟨v,hv,hr⟩,hb,u,hu⟩:=h
  exact ⟨⟨v,(World.putObj_heap_other (by omega)).trans hv,ownsRow_putObj hr ob' hl hc⟩,⟨hb.os,hb.tape,hb.output,by simpa using hb.size,fun i hi => (World.putObj_heap_other (by omega)).trans (hb.block i hi)⟩,u,(World.putObj_heap_other (by omega)).trans hu⟩
theorem Collects.alloc (h : Collects w o pre W) (ob : Obj) : Collects w o pre (W.alloc ob):=by
  obtain ⟨⟨v,hv,hr⟩,hb,u,hu⟩:=h
  exact ⟨⟨v,hv.alloc ob,hr.alloc ob⟩,hb.alloc hb.size ob,u,hu.alloc ob⟩
theorem Collects.set_ (h : Collects w o pre W) (ho : w.heap.size < o) (x : Value) : Collects w o pre (W.setCell ⟨o,0,none⟩ x):=by
  obtain ⟨⟨v,hv,hr⟩,hb,u,hu⟩:=h
  exact ⟨⟨v,hv.other (by omega) x,hr.kept (grownBy_setCell' W o x) (.inr (hu.not_row (by decide) hr).symm)⟩,hb.setCell (p:=⟨o,0,none⟩) (by simp; omega) x,x,hu.set x⟩
theorem Collects.drew (h : Collects w o pre W) : Collects w o pre W.drew:=⟨h.1,h.2.1.drew,h.2.2⟩
end
end Go.Proofs.YtmalncmdfmoccaaGreatDoor

