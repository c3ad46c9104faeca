/- Contracts of package addr's and its reference's small functions: Less, Index. -/
import Derived.Test.YtkdabfepggehiaaDoorKit
import Derived.Test.YtkdabfepggehiaaDoorAddrP
import Derived.Test.YtkdabfepggehiaaDoorValid
namespace Go.Proofs.YtkdabfepggehiaaDoor
open Go.RowKit

theorem addr_Less (ac ar bc br : Int) (w : World) :
    Calls Tryd.prog 28 #[.agg #[.int .i64 ac, .int .i64 ar], .agg #[.int .i64 bc, .int .i64 br]] w fun e w' => e = .returned (.bool (lessS ac ar bc br)) ∧ Below w.heap.size w w' := by
  rcases (show ar < br ∨ (¬ ar < br ∧ ar = br ∧ ac < bc) ∨ (¬ ar < br ∧ ar = br ∧ ¬ ac < bc) ∨ (¬ ar < br ∧ ¬ ar = br) from by omega) with h | ⟨h1, h2, h3⟩ | ⟨h1, h2, h3⟩ | ⟨h1, h2⟩
  · go_enter Tryd.func28, Tryd.ntmps28
    go_wp2
    go_ret
    exact ⟨by simp [lessS, h], ((Below.refl _ _).alloc (Nat.le_refl _) _).alloc (by simp) _⟩
  · subst h2
    go_enter Tryd.func28, Tryd.ntmps28
    go_wp2
    go_ret
    exact ⟨by simp [lessS, h3], ((Below.refl _ _).alloc (Nat.le_refl _) _).alloc (by simp) _⟩
  · subst h2
    go_enter Tryd.func28, Tryd.ntmps28
    go_wp2
    go_ret
    exact ⟨by simp [lessS]; omega, ((Below.refl _ _).alloc (Nat.le_refl _) _).alloc (by simp) _⟩
  · have hb : (ar == br) = false := by simp [h2]
    have H2 := Lib.hid h2
    clear h2
    go_enter Tryd.func28, Tryd.ntmps28
    go_wp2
    go_ret
    exact ⟨by have := H2.out; simp [lessS]; omega, ((Below.refl _ _).alloc (Nat.le_refl _) _).alloc (by simp) _⟩
theorem ref_Less (ac ar bc br : Int) (w : World) :
    Calls Tryd.prog 29 #[.agg #[.int .i64 ac, .int .i64 ar], .agg #[.int .i64 bc, .int .i64 br]] w fun e w' => e = .returned (.bool (lessS ac ar bc br)) ∧ Below w.heap.size w w' := by
  rcases (show ar < br ∨ (¬ ar < br ∧ ar = br ∧ ac < bc) ∨ (¬ ar < br ∧ ar = br ∧ ¬ ac < bc) ∨ (¬ ar < br ∧ ¬ ar = br) from by omega) with h | ⟨h1, h2, h3⟩ | ⟨h1, h2, h3⟩ | ⟨h1, h2⟩
  · go_enter Tryd.func29, Tryd.ntmps29
    go_wp2
    go_ret
    exact ⟨by simp [lessS, h], ((Below.refl _ _).alloc (Nat.le_refl _) _).alloc (by simp) _⟩
  · subst h2
    go_enter Tryd.func29, Tryd.ntmps29
    go_wp2
    go_ret
    exact ⟨by simp [lessS, h3], ((Below.refl _ _).alloc (Nat.le_refl _) _).alloc (by simp) _⟩
  · subst h2
    go_enter Tryd.func29, Tryd.ntmps29
    go_wp2
    go_ret
    exact ⟨by simp [lessS]; omega, ((Below.refl _ _).alloc (Nat.le_refl _) _).alloc (by simp) _⟩
  · have hb : (ar == br) = false := by simp [h2]
    have H2 := Lib.hid h2
    clear h2
    go_enter Tryd.func29, Tryd.ntmps29
    go_wp2
    go_ret
    exact ⟨by have := H2.out; simp [lessS]; omega, ((Below.refl _ _).alloc (Nat.le_refl _) _).alloc (by simp) _⟩
theorem addr_Index (c r : Int) (w : World) :
    Calls Tryd.prog 24 #[.agg #[.int .i64 c, .int .i64 r]] w fun e w' => e = .returned (.tuple #[.int .i64 (indexS c r).1, .int .i64 (indexS c r).2]) ∧ Below w.heap.size w w' := by
  by_cases h : validN c r = true
  · have h' := h
    simp only [validN, decide_eq_true_eq] at h'
    obtain ⟨h1, h2, h3, h4⟩ := h'
    have H := Lib.hid h
    clear h
    go_enter Tryd.func24, Tryd.ntmps24
    go_wp2_with (go_at_call 20; refine (addr_Valid _ _ _).mono ?_; rintro e w' ⟨rfl, hb⟩; rw [H.out]; have hz := hb.size; rw [World.size_alloc] at hz; have hc := hb.cell (p := ⟨w.heap.size, 0, none⟩) (by simp); have hc1 := hb.cell (p := ⟨w.heap.size, 1, none⟩) (by simp); have HB := Lib.hid hb; clear hb)
    go_ret2
    exact ⟨by simp [indexS, H.out], ((Below.refl _ _).alloc (Nat.le_refl _) _).trans (HB.out.mono (by simp))⟩
  · rw [Bool.not_eq_true] at h
    have H := Lib.hid h
    clear h
    go_enter Tryd.func24, Tryd.ntmps24
    go_wp2_with (go_at_call 20; refine (addr_Valid _ _ _).mono ?_; rintro e w' ⟨rfl, hb⟩; rw [H.out]; have HB := Lib.hid hb; clear hb)
    go_ret2
    exact ⟨by simp [indexS, H.out], ((Below.refl _ _).alloc (Nat.le_refl _) _).trans (HB.out.mono (by simp))⟩
theorem ref_Index (c r : Int) (w : World) :
    Calls Tryd.prog 25 #[.agg #[.int .i64 c, .int .i64 r]] w fun e w' => e = .returned (.tuple #[.int .i64 (indexS c r).1, .int .i64 (indexS c r).2]) ∧ Below w.heap.size w w' := by
  by_cases h : validN c r = true
  · have h' := h
    simp only [validN, decide_eq_true_eq] at h'
    obtain ⟨h1, h2, h3, h4⟩ := h'
    have H := Lib.hid h
    clear h
    go_enter Tryd.func25, Tryd.ntmps25
    go_wp2_with (go_at_call 21; refine (ref_Valid _ _ _).mono ?_; rintro e w' ⟨rfl, hb⟩; rw [H.out]; have hz := hb.size; rw [World.size_alloc] at hz; have hc := hb.cell (p := ⟨w.heap.size, 0, none⟩) (by simp); have hc1 := hb.cell (p := ⟨w.heap.size, 1, none⟩) (by simp); have HB := Lib.hid hb; clear hb)
    go_ret2
    exact ⟨by simp [indexS, H.out], ((Below.refl _ _).alloc (Nat.le_refl _) _).trans (HB.out.mono (by simp))⟩
  · rw [Bool.not_eq_true] at h
    have H := Lib.hid h
    clear h
    go_enter Tryd.func25, Tryd.ntmps25
    go_wp2_with (go_at_call 21; refine (ref_Valid _ _ _).mono ?_; rintro e w' ⟨rfl, hb⟩; rw [H.out]; have HB := Lib.hid hb; clear hb)
    go_ret2
    exact ⟨by simp [indexS, H.out], ((Below.refl _ _).alloc (Nat.le_refl _) _).trans (HB.out.mono (by simp))⟩
end Go.Proofs.YtkdabfepggehiaaDoor
