/- Contracts of Has, One and Inside, package rect's and the reference's. -/
import Derived.Test.YtlngjiibbcgkmaaGreatDoorRectW5
import Derived.Deep.RegionHeld3
namespace Go.Proofs.YtlngjiibbcgkmaaGreatDoor
open Go.RowKit

def hasR (r : R4) (c t : Int) : Bool := decide (r.c1 ≤ c) && decide (c ≤ r.c2) && decide (r.r1 ≤ t) && decide (t ≤ r.r2)
theorem has_cases (a1 a2 a3 a4 c t : Int) (P : Prop) (h1 : ¬ a1 ≤ c → P) (h2 : a1 ≤ c → ¬ c ≤ a3 → P) (h3 : a1 ≤ c → c ≤ a3 → ¬ a2 ≤ t → P) (h4 : a1 ≤ c → c ≤ a3 → a2 ≤ t → ¬ t ≤ a4 → P) (h5 : a1 ≤ c → c ≤ a3 → a2 ≤ t → t ≤ a4 → P) : P := by
  by_cases x1 : a1 ≤ c
  · by_cases x2 : c ≤ a3
    · by_cases x3 : a2 ≤ t
      · by_cases x4 : t ≤ a4
        · exact h5 x1 x2 x3 x4
        · exact h4 x1 x2 x3 x4
      · exact h3 x1 x2 x3
    · exact h2 x1 x2
  · exact h1 x1
def insideB (a b : R4) : Bool := checkB a && checkB b && hasR b a.c1 a.r1 && hasR b a.c2 a.r2
theorem inside_meet (a b : R4) : insideB a b = (meets a b && decide (meetS a b = a)) := by
  obtain ⟨a1, a2, a3, a4⟩ := a
  obtain ⟨b1, b2, b3, b4⟩ := b
  rw [Bool.eq_iff_iff]
  unfold insideB meetS meets
  simp only [Bool.and_eq_true, checkB_iff, hasR, decide_eq_true_eq, meetR]
  constructor
  · rintro ⟨⟨⟨h1, h2⟩, h3⟩, h4⟩
    have e : (⟨max a1 b1, max a2 b2, min a3 b3, min a4 b4⟩ : R4) = ⟨a1, a2, a3, a4⟩ := by congr 1 <;> omega
    refine ⟨⟨⟨h1, h2⟩, by omega⟩, ?_⟩
    rw [if_pos ⟨⟨h1, h2⟩, by omega⟩, e]
  · rintro ⟨⟨⟨h1, h2⟩, h5⟩, h6⟩
    rw [if_pos ⟨⟨h1, h2⟩, h5⟩] at h6
    simp only [R4.mk.injEq] at h6
    exact ⟨⟨⟨h1, h2⟩, by omega⟩, by omega⟩

theorem rect_One (c t : Int) (w : World) :
    Calls Tryz.prog 62 #[.agg #[.int .i64 c, .int .i64 t]] w fun e w' => e = .returned (.agg #[.int .i64 c, .int .i64 t, .int .i64 c, .int .i64 t]) ∧ Below w.heap.size w w' := by
  go_enter Tryz.func62, Tryz.ntmps62
  go_wp2
  refine bodyPost_ret (v := .agg #[.int .i64 c, .int .i64 t, .int .i64 c, .int .i64 t]) (by simp [results, Tryz.results62, go_sem]) rfl ⟨rfl, ?_⟩
  first
    | exact ((Below.refl _ _).alloc (Nat.le_refl _) _)
    | exact (((Below.refl _ _).alloc (Nat.le_refl _) _).alloc (by simp) _)
    | exact ((((((((Below.refl _ _).alloc (Nat.le_refl _) _).alloc (by simp) _)).setCell (by simp) _).setCell (by simp) _).setCell (by simp) _).setCell (by simp) _)

theorem ref_One (c t : Int) (w : World) :
    Calls Tryz.prog 108 #[.agg #[.int .i64 c, .int .i64 t]] w fun e w' => e = .returned (.agg #[.int .i64 c, .int .i64 t, .int .i64 c, .int .i64 t]) ∧ Below w.heap.size w w' := by
  go_enter Tryz.func108, Tryz.ntmps108
  go_wp2
  refine bodyPost_ret (v := .agg #[.int .i64 c, .int .i64 t, .int .i64 c, .int .i64 t]) (by simp [results, Tryz.results108, go_sem]) rfl ⟨rfl, ?_⟩
  first
    | exact ((Below.refl _ _).alloc (Nat.le_refl _) _)
    | exact (((Below.refl _ _).alloc (Nat.le_refl _) _).alloc (by simp) _)
    | exact ((((((((Below.refl _ _).alloc (Nat.le_refl _) _).alloc (by simp) _)).setCell (by simp) _).setCell (by simp) _).setCell (by simp) _).setCell (by simp) _)

end Go.Proofs.YtlngjiibbcgkmaaGreatDoor
