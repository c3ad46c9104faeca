/- Plain facts on what Minus returns: no two parts meet, none meets b, all lie in a, the areas add up, and an address is in one of them just where it is in a and not in b. -/
import Derived.Test.YtkdabfepggehiaaDoorRectIn
import Derived.Test.YtkdabfepggehiaaDoorRectW5
namespace Go.Proofs.YtkdabfepggehiaaDoor

def sumA (l : List R4) : Int := (l.map areaN).sum
def anyR (l : List R4) (x y : Int) : Bool := l.any fun r => hasR r x y
theorem hasR_iff (r : R4) (x y : Int) : hasR r x y = true ↔ (r.c1 ≤ x ∧ x ≤ r.c2) ∧ r.r1 ≤ y ∧ y ≤ r.r2 := by
  simp only [hasR, Bool.and_eq_true, decide_eq_true_eq]; omega
theorem meets_iff (a b : R4) : meets a b = true ↔ checkB a = true ∧ checkB b = true ∧ checkB (meetR a b) = true := by
  unfold meets; simp only [Bool.and_eq_true]; exact ⟨fun h => ⟨h.1.1, h.1.2, h.2⟩, fun h => ⟨⟨h.1, h.2.1⟩, h.2.2⟩⟩
theorem meets_parts {a b : R4} (h : meets a b = true) : (max a.c1 b.c1 ≤ min a.c2 b.c2) ∧ max a.r1 b.r1 ≤ min a.r2 b.r2 := by
  have := (checkB_iff _).1 ((meets_iff a b).1 h).2.2
  exact ⟨this.2.1, this.2.2.2.2.1⟩
theorem no_meet {a b : R4} (h : ¬ ((max a.c1 b.c1 ≤ min a.c2 b.c2) ∧ max a.r1 b.r1 ≤ min a.r2 b.r2)) : meets a b = false := by
  cases hm : meets a b
  · rfl
  · exact absurd (meets_parts hm) h
theorem inside_self {a : R4} (h : checkB a = true) : insideB a a = true := by
  have := (checkB_iff _).1 h
  unfold insideB
  rw [h]
  simp only [Bool.true_and, Bool.and_eq_true, hasR_iff]
  omega
theorem area_id (a1 a2 a3 a4 m1 m2 m3 m4 : Int) : (m3 - m1 + 1) * (m4 - m2 + 1) + ((a3 - a1 + 1) * (m2 - 1 - a2 + 1) + ((m1 - 1 - a1 + 1) * (m4 - m2 + 1) + ((a3 - (m3 + 1) + 1) * (m4 - m2 + 1) + ((a3 - a1 + 1) * (a4 - (m4 + 1) + 1) + 0)))) = (a3 - a1 + 1) * (a4 - a2 + 1) := by grind
structure Cuts (a b : R4) (l : List R4) : Prop where
  len : l.length ≤ 4
  each : ∀ r ∈ l, checkB r = true ∧ insideB r a = true ∧ meets r b = false
  pair : l.Pairwise fun x y => meets y x = false
  sum : (if meets a b = true then areaN (meetS a b) else 0) + sumA l = areaN a
  has : ∀ x y, anyR l x y = (hasR a x y && !hasR b x y)
theorem cuts (a b : R4) (ha : checkB a = true) (hb : checkB b = true) : Cuts a b (minusL a b) := by
  have hl : minusL a b = restL a b := by unfold minusL; rw [ha, hb]; rfl
  rw [hl]
  have A := (checkB_iff _).1 ha
  have B := (checkB_iff _).1 hb
  have hmm := fun x y => has_meet a b ha hb x y
  cases hm : meets a b
  · have hr : restL a b = [a] := by unfold restL; rw [if_neg (by simp [hm])]
    rw [hr]
    refine ⟨by simp, fun r hr => ?_, List.pairwise_singleton _ _, by rw [hm]; simp [sumA], fun x y => ?_⟩
    · obtain rfl := List.mem_singleton.1 hr
      exact ⟨ha, inside_self ha, hm⟩
    · have := hmm x y
      rw [hm, Bool.false_and] at this
      simp only [anyR, List.any_cons, List.any_nil, Bool.or_false]
      cases h1 : hasR a x y
      · rfl
      · rw [h1, Bool.true_and] at this
        rw [← this]; rfl
  · have hr : restL a b = restM a (meetS a b) := by unfold restL; rw [if_pos hm]
    rw [hr]
    have hM := (checkB_iff _).1 ((meets_iff a b).1 hm).2.2
    have hS := meetS_yes hm
    rw [hS]
    have g1 : a.c1 ≤ (meetR a b).c1 ∧ b.c1 ≤ (meetR a b).c1 ∧ (meetR a b).c2 ≤ a.c2 ∧ (meetR a b).c2 ≤ b.c2 ∧ a.r1 ≤ (meetR a b).r1 ∧ b.r1 ≤ (meetR a b).r1 ∧ (meetR a b).r2 ≤ a.r2 ∧ (meetR a b).r2 ≤ b.r2 := by
      simp only [meetR]; omega
    have g2 : ((meetR a b).c1 = a.c1 ∨ (meetR a b).c1 = b.c1) ∧ ((meetR a b).c2 = a.c2 ∨ (meetR a b).c2 = b.c2) ∧ ((meetR a b).r1 = a.r1 ∨ (meetR a b).r1 = b.r1) ∧ ((meetR a b).r2 = a.r2 ∨ (meetR a b).r2 = b.r2) := by
      simp only [meetR]; omega
    generalize meetR a b = m at hM g1 g2 hS ⊢
    obtain ⟨a1, a2, a3, a4⟩ := a
    obtain ⟨b1, b2, b3, b4⟩ := b
    obtain ⟨m1, m2, m3, m4⟩ := m
    simp only [] at A B hM g1 g2
    refine ⟨Nat.le_trans (List.length_filter_le _ _) (by simp [restParts]), fun r hr => ?_, ?_, ?_, fun x y => ?_⟩
    · unfold restM at hr
      obtain ⟨hr, hf⟩ := List.mem_filter.1 hr
      unfold fine at hf
      simp only [Bool.and_eq_true, decide_eq_true_eq] at hf
      have hc : checkB r = true ∧ (⟨a1, a2, a3, a4⟩ : R4).c1 ≤ r.c1 ∧ r.c2 ≤ a3 ∧ a2 ≤ r.r1 ∧ r.r2 ≤ a4 ∧ ¬ ((max r.c1 b1 ≤ min r.c2 b3) ∧ max r.r1 b2 ≤ min r.r2 b4) := by
        rw [checkB_iff]
        simp only [restParts, List.mem_cons, List.mem_nil_iff, or_false] at hr
        rcases hr with rfl | rfl | rfl | rfl <;> simp only [] at hf ⊢ <;> omega
      refine ⟨hc.1, ?_, no_meet hc.2.2.2.2.2⟩
      have hr' := (checkB_iff _).1 hc.1
      unfold insideB
      rw [hc.1, ha]
      simp only [Bool.true_and, Bool.and_eq_true, hasR_iff]
      have := hc.2
      simp only [] at this
      omega
    · unfold restM
      refine List.Pairwise.filter _ ?_
      simp only [restParts, List.pairwise_cons, List.mem_cons, List.mem_nil_iff, or_false]
      refine ⟨?_, ?_, ?_, ?_, List.Pairwise.nil⟩
      · rintro y (rfl | rfl | rfl) <;> refine no_meet ?_ <;> simp only [] <;> omega
      · rintro y (rfl | rfl) <;> refine no_meet ?_ <;> simp only [] <;> omega
      · rintro y rfl; refine no_meet ?_; simp only []; omega
      · intro y hy; exact hy.elim
    · rw [if_pos hm, hS]
      have hz : ∀ r ∈ restParts ⟨a1, a2, a3, a4⟩ ⟨m1, m2, m3, m4⟩, fine r = false → areaN r = 0 := by
        intro r hr hf
        unfold fine at hf
        simp only [restParts, List.mem_cons, List.mem_nil_iff, or_false] at hr
        rw [Bool.and_eq_false_iff] at hf
        simp only [decide_eq_false_iff_not] at hf
        rcases hr with rfl | rfl | rfl | rfl <;> unfold areaN <;> simp only [] at hf ⊢
        · rw [show m2 - 1 - a2 + 1 = 0 from by omega]; simp
        · rw [show m1 - 1 - a1 + 1 = 0 from by omega]; simp
        · rw [show a3 - (m3 + 1) + 1 = 0 from by omega]; simp
        · rw [show a4 - (m4 + 1) + 1 = 0 from by omega]; simp
      have hs : ∀ l : List R4, (∀ r ∈ l, fine r = false → areaN r = 0) → sumA (l.filter fine) = sumA l := by
        intro l
        induction l with
        | nil => intro _; rfl
        | cons r l ih =>
          intro h
          have := ih fun q hq => h q (by simp [hq])
          cases hf : fine r
          · rw [List.filter_cons_of_neg (by simp [hf]), this]
            simp [sumA, h r (by simp) hf]
          · rw [List.filter_cons_of_pos hf]
            simp only [sumA, List.map_cons, List.sum_cons] at this ⊢
            rw [this]
      unfold restM
      rw [hs _ hz]
      simp only [sumA, restParts, List.map_cons, List.map_nil, List.sum_cons, List.sum_nil, areaN]
      exact area_id a1 a2 a3 a4 m1 m2 m3 m4
    · unfold restM anyR
      rw [Bool.eq_iff_iff]
      simp only [List.any_eq_true, List.mem_filter, Bool.and_eq_true, Bool.not_eq_true', hasR_iff]
      have hb' : hasR ⟨b1, b2, b3, b4⟩ x y = false ↔ ¬ ((b1 ≤ x ∧ x ≤ b3) ∧ b2 ≤ y ∧ y ≤ b4) := by
        rw [← Bool.not_eq_true, hasR_iff]
      rw [hb']
      constructor
      · rintro ⟨r, ⟨hr, _⟩, h⟩
        simp only [restParts, List.mem_cons, List.mem_nil_iff, or_false] at hr
        rcases hr with rfl | rfl | rfl | rfl <;> simp only [] at h <;> omega
      · rintro ⟨h1, h2⟩
        have key : ∀ r ∈ restParts ⟨a1, a2, a3, a4⟩ ⟨m1, m2, m3, m4⟩, (r.c1 ≤ x ∧ x ≤ r.c2) ∧ r.r1 ≤ y ∧ y ≤ r.r2 → ∃ r, (r ∈ restParts ⟨a1, a2, a3, a4⟩ ⟨m1, m2, m3, m4⟩ ∧ fine r = true) ∧ (r.c1 ≤ x ∧ x ≤ r.c2) ∧ r.r1 ≤ y ∧ y ≤ r.r2 := fun r hr h => ⟨r, ⟨hr, by unfold fine; simp only [Bool.and_eq_true, decide_eq_true_eq]; omega⟩, h⟩
        by_cases c0 : y < m2
        · exact key ⟨a1, a2, a3, m2 - 1⟩ (by simp [restParts]) (by simp only []; omega)
        · by_cases c3 : m4 < y
          · exact key ⟨a1, m4 + 1, a3, a4⟩ (by simp [restParts]) (by simp only []; omega)
          · by_cases c1 : x < m1
            · exact key ⟨a1, m2, m1 - 1, m4⟩ (by simp [restParts]) (by simp only []; omega)
            · exact key ⟨m3 + 1, m2, a3, m4⟩ (by simp [restParts]) (by simp only []; omega)
end Go.Proofs.YtkdabfepggehiaaDoor
