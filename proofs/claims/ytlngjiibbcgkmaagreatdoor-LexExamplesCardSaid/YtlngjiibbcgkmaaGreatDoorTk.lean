/- Short forms of the moves in a drawn region. -/
import Derived.Test.YtlngjiibbcgkmaaGreatDoorOk
namespace Go.Proofs.YtlngjiibbcgkmaaGreatDoor
open Go.RowKit

section
variable {P : Program} {md : Region.Mode} {ops : Array Oper} {Q : Exit → Act → World → Prop} {w0 : World} {ps : List Pers} {i : Nat} {oi : Oper} {v : Value} {fuel : Nat} {listed : Array Bool} {a : Act} {w : World}
theorem tk (hi : ops[i]? = some oi) (hy : ∀ W, sees ps W → (execOp a.eval oi).run P W = .ok (.value v) W) (hS : Ok w0 ps w)
    (h : wpAnyH P md ops Q (fun W => Ok w0 ps W) fuel (listed.setIfInBounds i true) (a.put oi.dst v) w)
    (hs : Region.noSelect ops = true := by kernel_rfl) (hf : Region.free md ops listed i = true := by kernel_rfl) (hr : (Region.ready md ops listed).contains i = true := by kernel_rfl)
    (hQ : ∀ c a w, Q (.panic c) (a.put oi.dst v) w → Q (.panic c) a w := by exact fun _ _ _ h => h) (hw : Region.wanted oi (yielded ops a.tmps) = true := by rfl) : wpAnyH P md ops Q (fun W => Ok w0 ps W) (fuel + 1) listed a w :=
  wpAnyH_take hi hs hf hr hQ (.inl ⟨hw, fun W hW => hy W (Ok.sees hW)⟩) hS h
theorem sk (hi : ops[i]? = some oi) (hS : Ok w0 ps w)
    (h : wpAnyH P md ops Q (fun W => Ok w0 ps W) fuel (listed.setIfInBounds i true) (a.put oi.dst undef) w)
    (hs : Region.noSelect ops = true := by kernel_rfl) (hf : Region.free md ops listed i = true := by kernel_rfl) (hr : (Region.ready md ops listed).contains i = true := by kernel_rfl)
    (hQ : ∀ c a w, Q (.panic c) (a.put oi.dst undef) w → Q (.panic c) a w := by exact fun _ _ _ h => h) (hw : Region.wanted oi (yielded ops a.tmps) = false := by rfl) : wpAnyH P md ops Q (fun W => Ok w0 ps W) (fuel + 1) listed a w :=
  wpAnyH_take hi hs hf hr hQ (.inr ⟨hw, rfl⟩) hS h
theorem p1 {α : Type} (l : List α) (i : Nat) (a : α) : l.toArray.setIfInBounds i a = (l.set i a).toArray := List.setIfInBounds_toArray ..
theorem p4 {α : Type} {l : List α} {i : Nat} (h : i < l.toArray.size) : l.toArray[i] = l[i]'(by simpa using h) := rfl
theorem p5 {α : Type} {x : α} {l : List α} {i : Nat} (h : i + 1 < (x :: l).length) : (x :: l)[i + 1] = l[i]'(by simpa using h) := rfl
theorem p6 {α : Type} {x : α} {l : List α} (h : 0 < (x :: l).length) : (x :: l)[0] = x := rfl
theorem p2 {α : Type} {x : α} {l : List α} {a : α} : (x :: l).set 0 a = a :: l := rfl
theorem p3 {α : Type} {x : α} {l : List α} {i : Nat} {a : α} : (x :: l).set (i + 1) a = x :: l.set i a := rfl
end
end Go.Proofs.YtlngjiibbcgkmaaGreatDoor
