/- A region that draws its order, in a round of a range over a function: walked by the rules of plain regions. No program stands here. Contracts of Has, One and Inside, package rect's and the reference's. The contract of group.Members: the bits of the set, ascending, in new memory. Condition: the library's table of TrailingZeros64. -/
import Derived.Test.YtmalncmdfmoccaaGreatDoorBIter
import Derived.Test.YtmalncmdfmoccaaGreatDoorBMem
import Derived.Deep.RegionHeld3
namespace Go.Proofs.YtmalncmdfmoccaaGreatDoor
open Go.RowKit
def notDefer (o : Oper) : Bool:=match o.op with
  | .defer _ => false
  | _ => true
theorem notDefer_ne {o : Oper} (h : notDefer o = true) : ∀ c,o.op ≠ .defer c:=fun c e => by
  unfold notDefer at h; rw [e] at h; cases h
theorem steps_round {P : Program} {m m' : Machine} (l : Nat) (h : Steps P m m') : StepsIn (Machine.fenced P (Fence.wide.inRound l)) P m m':=stepsIn_wide.2 h
theorem oper_round {n : Nat} {P : Program} {o : Oper} {a : Act} {w : World} {K : Act → World → Prop} {Q : Exit → Act → World → Prop} (l : Nat) (hd : ∀ c,o.op ≠ .defer c) (h : o.wp P a w K Q) : o.wpIn (Fence.wide.inRound l) n P a w K Q:=by
  unfold Oper.wpIn
  unfold Oper.wp at h
  refine ⟨fun _ _ => trivial,?_⟩
  rw [Oper.semAt_eq _ _ _ hd]
  generalize (execOp a.eval o).run P w = r at *
  cases r with
  | ok x w' =>
    cases x with
    | value v => exact h
    | skip => exact h
    | defer d => exact h
    | enter f args => exact ⟨fun h0 => by simp [Fence.wide] at h0,CallsIn.inRound l (callsIn_wide.2 h)⟩
    | row row args => exact ⟨fun h0 => by simp [Fence.wide] at h0,fun c cs _ => let ⟨v,w',r,s⟩:=h c cs; ⟨v,w',r,steps_round l s⟩⟩
    | _ => exact h.elim
  | halt x w' => cases x <;> first | exact h | exact h.elim
theorem wpOp_round {n : Nat} {P : Program} {ops : Array Oper} {Q : Exit → Act → World → Prop} {i : Nat} {K : Act → World → Prop} {a : Act} {w : World} (l : Nat) (hd : ∀ (j : Nat) o,ops[j]? = some o → ∀ c,o.op ≠ .defer c) (hQ : ¬ LetsOut Q)
    (h : wpOp P ops Q i K a w) : wpOpIn (Fence.wide.inRound l) n P ops Q i K a w:=by
  unfold wpOpIn
  unfold wpOp at h
  cases ho : ops[i]? with
  | none => rw [ho] at h; exact h
  | some o =>
    rw [ho] at h
    simp only at h ⊢
    split
    · next hw =>
      rw [if_pos hw] at h
      rcases h with h | h
      · exact oper_round l (hd i o ho) h
      · exact absurd h.2 hQ
    · next hw =>
      rw [if_neg hw] at h
      exact ⟨fun _ _ => trivial,h⟩
theorem wpAny_round {n : Nat} {P : Program} {md : Region.Mode} {ops : Array Oper} {Q : Exit → Act → World → Prop} (l : Nat) (hd : ∀ (j : Nat) o,ops[j]? = some o → ∀ c,o.op ≠ .defer c) (hQ : ¬ LetsOut Q) :
    ∀ (fuel : Nat) (listed : Array Bool) (a : Act) (w : World),wpAny P md ops Q fuel listed a w → wpAnyIn (Fence.wide.inRound l) n P md ops Q fuel listed a w
  | 0,_,_,_,h => h
  | fuel + 1,_,_,_,h => ⟨h.1,fun i hi => wpOp_round l hd hQ (wpOp_mono (fun a' w' h' => wpAny_round l hd hQ fuel _ a' w' h') (h.2 i hi))⟩
def OnlyN (Q : Exit → Act → World → Prop) : Exit → Act → World → Prop
  | .normal,a,w => Q .normal a w
  | _,_,_ => False
theorem onlyN_lets (Q : Exit → Act → World → Prop) : ¬ LetsOut (OnlyN Q):=fun ⟨_,_,h⟩ => h
theorem onlyN_imp (Q : Exit → Act → World → Prop) : ∀ e a w,OnlyN Q e a w → Q e a w:=fun e a w h => by cases e <;> first | exact h | exact h.elim
theorem wpIn_region_plain {l n : Nat} {P : Program} {id : Nat} {ops : Array Oper} {Q : Exit → Act → World → Prop} {a : Act} {w : World} (hm : P.follows .mixedOrders = true) (hd : ops.all notDefer = true)
    (h : wpAny P .any ops (OnlyN Q) ops.size (Array.replicate ops.size false) a w.drew) : (Code.region id ops true).wpIn (Fence.wide.inRound l) n P Q a w :=
  wpIn_mono (wpIn_region_any hm (wpAny_round l (fun j o ho => notDefer_ne (by
    rw [Array.all_eq_true] at hd
    obtain ⟨hj,e⟩:=Array.getElem?_eq_some_iff.1 ho
    rw [← e]; exact hd j hj)) (onlyN_lets Q) _ _ _ _ h)) (onlyN_imp Q)
end Go.Proofs.YtmalncmdfmoccaaGreatDoor
namespace Go.Proofs.YtmalncmdfmoccaaGreatDoor
open Go.RowKit
end Go.Proofs.YtmalncmdfmoccaaGreatDoor
namespace Go.Proofs.YtmalncmdfmoccaaGreatDoor
open Go.RowKit
attribute [local go_sem] Oper.semAt_some
def intsV (l : List Int) : List Value:=l.map fun x => .int .i64 x
def Collects (w : World) (o : Nat) (pre : List Int) (W : World) : Prop :=
  (∃ v,Boxed W w.heap.size 312 v ∧ W.ownsRow w.heap.size 3 1 v pre.length (intsV pre)) ∧ Below w.heap.size w W ∧ ∃ u,Boxed W o 50 u
section
variable {w W : World} {o : Nat} {pre : List Int}
theorem Collects.put (h : Collects w o pre W) {l : Nat} {ob : Obj} (ob' : Obj) (hw : w.heap.size < l) (ho : o < l) (hl : W.heap[l]? = some ob) (hc : ob.isCells = false) : Collects w o pre (W.putObj l ob'):=by
  obtain ⟨⟨v,hv,hr⟩,hb,u,hu⟩:=h
  exact ⟨⟨v,(World.putObj_heap_other (by omega)).trans hv,ownsRow_putObj hr ob' hl hc⟩,⟨hb.os,hb.tape,hb.output,by simpa using hb.size,fun i hi => (World.putObj_heap_other (by omega)).trans (hb.block i hi)⟩,u,(World.putObj_heap_other (by omega)).trans hu⟩
theorem Collects.alloc (h : Collects w o pre W) (ob : Obj) : Collects w o pre (W.alloc ob):=by
  obtain ⟨⟨v,hv,hr⟩,hb,u,hu⟩:=h
  exact ⟨⟨v,hv.alloc ob,hr.alloc ob⟩,hb.alloc hb.size ob,u,hu.alloc ob⟩
theorem Collects.set_ (h : Collects w o pre W) (ho : w.heap.size < o) (x : Value) : Collects w o pre (W.setCell ⟨o,0,none⟩ x):=by
  obtain ⟨⟨v,hv,hr⟩,hb,u,hu⟩:=h
  exact ⟨⟨v,hv.other (by omega) x,hr.kept (grownBy_setCell' W o x) (.inr (hu.not_row (by decide) hr).symm)⟩,hb.setCell (p:=⟨o,0,none⟩) (by simp; omega) x,x,hu.set x⟩
theorem Collects.drew (h : Collects w o pre W) : Collects w o pre W.drew:=⟨h.1,h.2.1.drew,h.2.2⟩
end
end Go.Proofs.YtmalncmdfmoccaaGreatDoor
