/- Plain helpers: a slice of integers among the facts that outlive every call. -/
import Derived.Test.YtjjdlhbbkkkjnaaDoorOk
namespace Go.Proofs.YtjjdlhbbkkkjnaaDoor
open Go.RowKit

def kInts (k : IntKind) (B : Nat) (a : Option Addr) (n : Nat) (f : Nat → Int) : Pers := kFact B (fun w => IsInts k w B a n f) fun _ _ hb h => h.below hb (Nat.le_refl _)
theorem IsInts.spot {k : IntKind} {w : World} {B n : Nat} {a : Option Addr} {f : Nat → Int} (h : IsInts k w B a n f) (hn : 0 < n) :
    ∃ b o, a = some ⟨b, o, none⟩ ∧ b < B ∧ ∀ i, i < n → w.cell? ⟨b, o + i, none⟩ = some (.int k (f i)) := by
  obtain ⟨⟨b, o, sp⟩, rfl, hB, hc⟩ := h hn
  have h0 := hc 0 hn
  have hs : sp = none := by simpa [Addr.add] using World.cell?_spot h0
  subst hs
  refine ⟨b, o, rfl, hB, fun i hi => ?_⟩
  have := hc i hi
  rwa [show (⟨b, o, none⟩ : Addr).add i = ⟨b, o + i, none⟩ from by unfold Addr.add; split <;> simp_all] at this
theorem ints_cells {k : IntKind} {w : World} {B n : Nat} {a : Option Addr} {f : Nat → Int} (h : (kInts k B a n f).p w) (i : Nat) (hi : i < n) :
    ∃ b o, a = some ⟨b, o, none⟩ ∧ (kCells b (o + i) [.int k (f i)]).p w := by
  obtain ⟨b, o, ha, hB, hc⟩ := h.1.spot (by omega)
  exact ⟨b, o, ha, Nat.lt_of_lt_of_le hB h.2, hc i hi, trivial⟩
/-- what a row of integers reads as -/
theorem own_intsL {w : World} {base : Nat} {e : TypeId} {v : Value} {l : List Int} (h : w.ownsRow base e 1 v l.length (l.map fun x => .int .i64 x)) :
    ∃ a c, v = .slice a l.length c ∧ IsInts .i64 w w.heap.size a l.length (fun i => l.getD i 0) ∧ l.length ≤ maxLen :=
  own_ints h fun i hi => by rw [List.getElem?_map, List.getElem?_eq_getElem hi, List.getD_eq_getElem?_getD, List.getElem?_eq_getElem hi]; rfl
theorem ints_of_blk {w : World} {b : Nat} {t : TypeId} (l : List Int) (h : (kBlk b t (l.map fun x => .int .i64 x)).p w) : IsInts .i64 w w.heap.size (some ⟨b, 0, none⟩) l.length (fun i => l.getD i 0) := by
  intro _
  refine ⟨_, rfl, Blk.lt h, fun i hi => ?_⟩
  have := Blk.cell h i
  rw [show (⟨b, 0, none⟩ : Addr).add i = ⟨b, i, none⟩ from by unfold Addr.add; split <;> simp_all, this]
  simp [List.getD_eq_getElem?_getD, List.getElem?_eq_getElem hi]
theorem ints_up {k : IntKind} {w : World} {B n : Nat} {a : Option Addr} {f : Nat → Int} (h : (kInts k B a n f).p w) : IsInts k w w.heap.size a n f := h.1.below (Below.refl _ _) h.2
end Go.Proofs.YtjjdlhbbkkkjnaaDoor
