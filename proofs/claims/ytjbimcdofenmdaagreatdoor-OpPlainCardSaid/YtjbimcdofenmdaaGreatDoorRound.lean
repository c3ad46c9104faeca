/- A region that draws its order, in a round of a range over a function: walked by the rules of plain regions. No program stands here. -/
import Derived.Test.YtjbimcdofenmdaaGreatDoorIter
namespace Go.Proofs.YtjbimcdofenmdaaGreatDoor
open Go.RowKit
def notDefer (o : Oper) : Bool:=match o.op with
  | .defer _ => false
  | _ => true
theorem notDefer_ne {o : Oper} (h : notDefer o = true) : ∀ c,o.op ≠ .defer c:=fun c e => by
  unfold notDefer at h; rw [e] at h; cases h
theorem steps_round {P : Program} {m m' : Machine} (l : Nat) (h : Steps P m m') : StepsIn (Machine.fenced P (Fence.wide.inRound l)) P m m':=stepsIn_wide.2 h
theorem oper_round {n : Nat} {P : Program} {o : Oper} {a : Act} {w : World} {K : Act → World → Prop} {Q : Exit → Act → World → Prop} (l : Nat) (hd : ∀ c,o.op ≠ .defer c) (h : o.wp P a w K Q) : o.wpIn (Fence.wide.inRound l) n P a w K Q:=by
  unfold Oper.wpIn
  unfold Oper.wp at h
  refine ⟨fun _ _ => trivial,?_⟩
  rw [Oper.semAt_eq _ _ _ hd]
  generalize (execOp a.eval o).run P w = r at *
  cases r with
  | ok x w' =>
    cases x with
    | value v => exact h
    | skip => exact h
    | defer d => exact h
    | enter f args => exact ⟨fun h0 => by simp [Fence.wide] at h0,CallsIn.inRound l (callsIn_wide.2 h)⟩
    | row row args => exact ⟨fun h0 => by simp [Fence.wide] at h0,fun c cs _ => let ⟨v,w',r,s⟩:=h c cs; ⟨v,w',r,steps_round l s⟩⟩
    | _ => exact h.elim
  | halt x w' => cases x <;> first | exact h | exact h.elim
theorem wpOp_round {n : Nat} {P : Program} {ops : Array Oper} {Q : Exit → Act → World → Prop} {i : Nat} {K : Act → World → Prop} {a : Act} {w : World} (l : Nat) (hd : ∀ (j : Nat) o,ops[j]? = some o → ∀ c,o.op ≠ .defer c) (hQ : ¬ LetsOut Q)
    (h : wpOp P ops Q i K a w) : wpOpIn (Fence.wide.inRound l) n P ops Q i K a w:=by
  unfold wpOpIn
  unfold wpOp at h
  cases ho : ops[i]? with
  | none => rw [ho] at h; exact h
  | some o =>
    rw [ho] at h
    simp only at h ⊢
    split
    · next hw =>
      rw [if_pos hw] at h
      rcases h with h | h
      · exact oper_round l (hd i o ho) h
      · exact absurd h.2 hQ
    · next hw =>
      rw [if_neg hw] at h
      exact ⟨fun _ _ => trivial,h⟩
theorem wpAny_round {n : Nat} {P : Program} {md : Region.Mode} {ops : Array Oper} {Q : Exit → Act → World → Prop} (l : Nat) (hd : ∀ (j : Nat) o,ops[j]? = some o → ∀ c,o.op ≠ .defer c) (hQ : ¬ LetsOut Q) :
    ∀ (fuel : Nat) (listed : Array Bool) (a : Act) (w : World),wpAny P md ops Q fuel listed a w → wpAnyIn (Fence.wide.inRound l) n P md ops Q fuel listed a w
  | 0,_,_,_,h => h
  | fuel + 1,_,_,_,h => ⟨h.1,fun i hi => wpOp_round l hd hQ (wpOp_mono (fun a' w' h' => wpAny_round l hd hQ fuel _ a' w' h') (h.2 i hi))⟩
def OnlyN (Q : Exit → Act → World → Prop) : Exit → Act → World → Prop
  | .normal,a,w => Q .normal a w
  | _,_,_ => False
theorem onlyN_lets (Q : Exit → Act → World → Prop) : ¬ LetsOut (OnlyN Q):=fun ⟨_,_,h⟩ => h
theorem onlyN_imp (Q : Exit → Act → World → Prop) : ∀ e a w,OnlyN Q e a w → Q e a w:=fun e a w h => by cases e <;> first | exact h | exact h.elim
theorem wpIn_region_plain {l n : Nat} {P : Program} {id : Nat} {ops : Array Oper} {Q : Exit → Act → World → Prop} {a : Act} {w : World} (hm : P.follows .mixedOrders = true) (hd : ops.all notDefer = true)
    (h : wpAny P .any ops (OnlyN Q) ops.size (Array.replicate ops.size false) a w.drew) : (Code.region id ops true).wpIn (Fence.wide.inRound l) n P Q a w :=
  wpIn_mono (wpIn_region_any hm (wpAny_round l (fun j o ho => notDefer_ne (by
    rw [Array.all_eq_true] at hd
    obtain ⟨hj,e⟩:=Array.getElem?_eq_some_iff.1 ho
    rw [← e]; exact hd j hj)) (onlyN_lets Q) _ _ _ _ h)) (onlyN_imp Q)
end Go.Proofs.YtjbimcdofenmdaaGreatDoor
