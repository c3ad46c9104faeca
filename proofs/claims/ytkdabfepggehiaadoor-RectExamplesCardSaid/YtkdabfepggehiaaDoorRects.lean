/- Plain helpers: a slice of ranges among the facts that outlive every call. -/
import Derived.Test.YtkdabfepggehiaaDoorOk
import Derived.Test.YtkdabfepggehiaaDoorEqR
namespace Go.Proofs.YtkdabfepggehiaaDoor
open Go.RowKit

/-- a slice of ranges that reads as f -/
def kRects (B : Nat) (a : Option Addr) (n : Nat) (f : Nat → R4) : Pers := kFact B (fun w => IsRects w B a n f) fun _ _ hb h => h.below hb (Nat.le_refl _)
theorem rects_cells {w : World} {B n : Nat} {a : Option Addr} {f : Nat → R4} (h : (kRects B a n f).p w) (k : Nat) (hk : k < n) :
    ∃ b o, a = some ⟨b, o, none⟩ ∧ (kCells b (o + k * 4) [.int .i64 (f k).c1, .int .i64 (f k).r1, .int .i64 (f k).c2, .int .i64 (f k).r2]).p w := by
  obtain ⟨b, o, ha, hB, hc⟩ := h.1.spot (by omega)
  obtain ⟨h1, h2, h3, h4⟩ := hc k hk
  exact ⟨b, o, ha, Nat.lt_of_lt_of_le hB h.2, h1, h2, h3, h4, trivial⟩
end Go.Proofs.YtkdabfepggehiaaDoor
