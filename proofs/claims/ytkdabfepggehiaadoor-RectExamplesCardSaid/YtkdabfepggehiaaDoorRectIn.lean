/- Plain facts on what two ranges have in common. -/
import Derived.Test.YtkdabfepggehiaaDoorRectH
namespace Go.Proofs.YtkdabfepggehiaaDoor

theorem meetR_comm (a b : R4) : meetR a b = meetR b a := by
  unfold meetR
  rw [Int.max_comm a.c1, Int.max_comm a.r1, Int.min_comm a.c2, Int.min_comm a.r2]
theorem meets_comm (a b : R4) : meets a b = meets b a := by
  unfold meets
  rw [meetR_comm a b, Bool.and_comm (checkB a)]
theorem meetS_comm (a b : R4) : meetS a b = meetS b a := by
  unfold meetS
  rw [meets_comm a b, meetR_comm a b]
theorem has_meet (a b : R4) (ha : checkB a = true) (hb : checkB b = true) (x y : Int) : (meets a b && hasR (meetS a b) x y) = (hasR a x y && hasR b x y) := by
  have h1 := (checkB_iff a).1 ha
  have h2 := (checkB_iff b).1 hb
  cases hm : meets a b
  · have h3 : ¬ (1 ≤ (meetR a b).c1 ∧ (meetR a b).c1 ≤ (meetR a b).c2 ∧ (meetR a b).c2 ≤ 1024 ∧ 1 ≤ (meetR a b).r1 ∧ (meetR a b).r1 ≤ (meetR a b).r2 ∧ (meetR a b).r2 ≤ 1024) := fun h => by
      have := (checkB_iff _).2 h
      unfold meets at hm
      rw [ha, hb, this] at hm
      cases hm
    rw [Bool.false_and]
    symm
    rw [Bool.eq_false_iff]
    intro h
    simp only [hasR, Bool.and_eq_true, decide_eq_true_eq] at h
    apply h3
    simp only [meetR]
    omega
  · rw [Bool.true_and, meetS_yes hm]
    rw [Bool.eq_iff_iff]
    simp only [hasR, meetR, Bool.and_eq_true, decide_eq_true_eq, Int.max_le, Int.le_min]
    omega
end Go.Proofs.YtkdabfepggehiaaDoor
