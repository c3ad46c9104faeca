/- Plain: what is left of a range when others are taken away, in the program's order and in the reference's. -/
import Derived.Test.YtkdabfepggehiaaDoorRectC
namespace Go.Proofs.YtkdabfepggehiaaDoor
open Go.RowKit

/-- all ranges of L less x, as the program does it: from the last one on -/
def cutP (L : List R4) (x : R4) : List R4 := L.reverse.flatMap fun a => restL a x
/-- the ranges below j stand, those from j on are cut -/
def midP (L : List R4) (x : R4) (j : Nat) : List R4 := L.take j ++ (L.drop j).reverse.flatMap fun a => restL a x
def cutR (L : List R4) (x : R4) : List R4 := L.flatMap fun a => minusL a x
def leftP (r : R4) (l : List R4) : List R4 := l.foldl cutP [r]
def leftR (r : R4) (l : List R4) : List R4 := l.foldl cutR [r]
theorem midP_all (L : List R4) (x : R4) : midP L x L.length = L := by simp [midP]
theorem midP_zero (L : List R4) (x : R4) : midP L x 0 = cutP L x := by simp [midP, cutP]
theorem midP_step (L : List R4) (x : R4) (i : Nat) (a : R4) (h : L[i]? = some a) : midP L x i = L.take i ++ ((L.drop (i + 1)).reverse.flatMap (fun a => restL a x) ++ restL a x) := by
  obtain ⟨hi, rfl⟩ := List.getElem?_eq_some_iff.1 h
  rw [midP, List.drop_eq_getElem_cons hi, List.reverse_cons, List.flatMap_append]
  simp
theorem midP_succ (L : List R4) (x : R4) (i : Nat) (a : R4) (h : L[i]? = some a) : midP L x (i + 1) = L.take i ++ a :: (L.drop (i + 1)).reverse.flatMap fun a => restL a x := by
  obtain ⟨hi, rfl⟩ := List.getElem?_eq_some_iff.1 h
  rw [midP, List.take_succ_eq_append_getElem hi, List.append_assoc]
  rfl
structure Fits (L : List R4) : Prop where
  each : ∀ a ∈ L, checkB a = true
  sum : sumA L ≤ 1048576
theorem sumA_cons (a : R4) (L : List R4) : sumA (a :: L) = areaN a + sumA L := by simp [sumA]
theorem sumA_append (K L : List R4) : sumA (K ++ L) = sumA K + sumA L := by simp [sumA]
theorem sumA_len (L : List R4) (h : ∀ a ∈ L, checkB a = true) : (L.length : Int) ≤ sumA L := by
  induction L with
  | nil => simp [sumA]
  | cons a L ih =>
    rw [sumA_cons]
    have h1 := (area_le (h a (by simp))).1
    have h2 := ih fun b hb => h b (by simp [hb])
    simp only [List.length_cons]
    omega
theorem Fits.len {L : List R4} (h : Fits L) : L.length ≤ 1048576 := by
  have := sumA_len L h.each
  have := h.sum
  omega
theorem rest_fits (a x : R4) (ha : checkB a = true) (hx : checkB x = true) : (∀ b ∈ restL a x, checkB b = true) ∧ sumA (restL a x) ≤ areaN a := by
  have C := cuts a x ha hx
  have hl : minusL a x = restL a x := by unfold minusL; rw [ha, hx]; rfl
  rw [hl] at C
  refine ⟨fun b hb => (C.each b hb).1, ?_⟩
  have := C.sum
  split at this
  · next hm =>
    have h1 : checkB (meetS a x) = true := by rw [meetS_yes hm]; exact ((meets_iff a x).1 hm).2.2
    have := (area_le h1).1
    omega
  · omega
theorem flat_fits (L : List R4) (x : R4) (h : ∀ a ∈ L, checkB a = true) (hx : checkB x = true) : (∀ b ∈ L.flatMap (fun a => restL a x), checkB b = true) ∧ sumA (L.flatMap fun a => restL a x) ≤ sumA L := by
  induction L with
  | nil => exact ⟨fun b hb => by simp at hb, by simp [sumA]⟩
  | cons a L ih =>
    obtain ⟨i1, i2⟩ := ih fun b hb => h b (by simp [hb])
    obtain ⟨r1, r2⟩ := rest_fits a x (h a (by simp)) hx
    rw [List.flatMap_cons, sumA_append, sumA_cons]
    refine ⟨fun b hb => ?_, by omega⟩
    rcases List.mem_append.1 hb with hb | hb
    · exact r1 b hb
    · exact i1 b hb
theorem sumA_perm {K L : List R4} (h : K.Perm L) : sumA K = sumA L := by
  induction h with
  | nil => rfl
  | cons x _ ih => rw [sumA_cons, sumA_cons, ih]
  | swap x y l => rw [sumA_cons, sumA_cons, sumA_cons, sumA_cons]; omega
  | trans _ _ h1 h2 => exact h1.trans h2
theorem midP_fits {L : List R4} {x : R4} (h : Fits L) (hx : checkB x = true) (j : Nat) : Fits (midP L x j) := by
  have hd : ∀ a ∈ (L.drop j).reverse, checkB a = true := fun a ha => h.each a (List.mem_of_mem_drop (List.mem_reverse.1 ha))
  obtain ⟨f1, f2⟩ := flat_fits _ x hd hx
  refine ⟨fun b hb => ?_, ?_⟩
  · rcases List.mem_append.1 hb with hb | hb
    · exact h.each b (List.mem_of_mem_take hb)
    · exact f1 b hb
  · have e : sumA L = sumA (L.take j) + sumA (L.drop j) := by rw [← sumA_append, List.take_append_drop]
    rw [sumA_perm (List.reverse_perm _)] at f2
    rw [midP, sumA_append]
    have := h.sum
    omega
theorem one_fits (r : R4) (h : checkB r = true) : Fits [r] := ⟨fun a ha => by rw [List.mem_singleton.1 ha]; exact h, by simp [sumA]; exact (area_le h).2⟩
theorem left_fits (r : R4) (l : List R4) (hr : checkB r = true) (hl : ∀ x ∈ l, checkB x = true) : Fits (leftP r l) := by
  have key : ∀ (l : List R4) (L : List R4), (∀ x ∈ l, checkB x = true) → Fits L → Fits (l.foldl cutP L) := by
    intro l
    induction l with
    | nil => intro L _ h; exact h
    | cons x l ih => intro L hl h; exact ih _ (fun y hy => hl y (by simp [hy])) (by rw [← midP_zero]; exact midP_fits h (hl x (by simp)) 0)
  exact key l [r] hl (one_fits r hr)
theorem cut_perm {K L : List R4} (x : R4) (h : K.Perm L) (hk : ∀ a ∈ K, checkB a = true) (hx : checkB x = true) : (cutP K x).Perm (cutR L x) := by
  have e : cutR L x = L.flatMap fun a => restL a x := by
    have hL : ∀ a ∈ L, checkB a = true := fun a ha => hk a (h.mem_iff.2 ha)
    unfold cutR
    clear h hk
    induction L with
    | nil => rfl
    | cons a L ih =>
      rw [List.flatMap_cons, List.flatMap_cons, ih fun b hb => hL b (by simp [hb])]
      unfold minusL
      rw [hL a (by simp), hx]
      rfl
  rw [e]
  exact ((List.reverse_perm K).trans h).flatMap_right _
theorem left_perm (r : R4) (l : List R4) (hr : checkB r = true) (hl : ∀ x ∈ l, checkB x = true) : (leftP r l).Perm (leftR r l) := by
  have key : ∀ (l : List R4) (K L : List R4), (∀ x ∈ l, checkB x = true) → K.Perm L → Fits K → (l.foldl cutP K).Perm (l.foldl cutR L) := by
    intro l
    induction l with
    | nil => intro K L _ h _; exact h
    | cons x l ih =>
      intro K L hl h hf
      exact ih _ _ (fun y hy => hl y (by simp [hy])) (cut_perm x h hf.each (hl x (by simp))) (by rw [← midP_zero]; exact midP_fits hf (hl x (by simp)) 0)
  exact key l _ _ hl (List.Perm.refl _) (one_fits r hr)
/-- what Covers returns -/
def coversP (r : R4) (l : List R4) : Bool := (leftP r l).isEmpty
theorem covers_same (r : R4) (l : List R4) (hr : checkB r = true) (hl : ∀ x ∈ l, checkB x = true) : (leftR r l).isEmpty = coversP r l := by
  have h := (left_perm r l hr hl).length_eq
  unfold coversP
  cases h1 : leftP r l <;> cases h2 : leftR r l <;> simp_all
theorem any_flat (L : List R4) (x : R4) (h : ∀ a ∈ L, checkB a = true) (hx : checkB x = true) (p q : Int) : anyR (L.flatMap fun a => restL a x) p q = (anyR L p q && !hasR x p q) := by
  induction L with
  | nil => simp [anyR]
  | cons a L ih =>
    have C := (cuts a x (h a (by simp)) hx).has p q
    have hl : minusL a x = restL a x := by unfold minusL; rw [h a (by simp), hx]; rfl
    rw [hl] at C
    have i := ih fun b hb => h b (by simp [hb])
    unfold anyR at *
    rw [List.flatMap_cons, List.any_append, C, i, List.any_cons]
    cases hasR a p q <;> cases hasR x p q <;> simp
theorem any_left (r : R4) (l : List R4) (hr : checkB r = true) (hl : ∀ x ∈ l, checkB x = true) (p q : Int) : anyR (leftP r l) p q = (hasR r p q && !anyR l p q) := by
  have key : ∀ (l : List R4) (K : List R4), (∀ x ∈ l, checkB x = true) → Fits K → anyR (l.foldl cutP K) p q = (anyR K p q && !anyR l p q) := by
    intro l
    induction l with
    | nil => intro K _ _; simp [anyR]
    | cons x l ih =>
      intro K hl hf
      have hx := hl x (by simp)
      rw [List.foldl_cons, ih _ (fun y hy => hl y (by simp [hy])) (by rw [← midP_zero]; exact midP_fits hf hx 0)]
      have e : anyR (cutP K x) p q = (anyR K p q && !hasR x p q) := by
        rw [cutP, any_flat _ x (fun a ha => hf.each a (List.mem_reverse.1 ha)) hx]
        congr 1
        unfold anyR
        rw [List.any_reverse]
      rw [e]
      unfold anyR
      rw [List.any_cons]
      cases K.any (fun r => hasR r p q) <;> cases hasR x p q <;> simp
  rw [leftP, key l [r] hl (one_fits r hr)]
  simp [anyR]
/-- ranges cover a range exactly if each of its addresses is in one of them -/
theorem covers_iff (r : R4) (l : List R4) (hr : checkB r = true) (hl : ∀ x ∈ l, checkB x = true) : coversP r l = true ↔ ∀ p q, hasR r p q = true → anyR l p q = true := by
  have hf := left_fits r l hr hl
  unfold coversP
  constructor
  · intro h p q hp
    have := any_left r l hr hl p q
    rw [List.isEmpty_iff.1 h] at this
    simp only [anyR, List.any_nil, hp, Bool.true_and] at this
    simpa [anyR] using this.symm
  · intro h
    cases hL : leftP r l with
    | nil => rfl
    | cons a L =>
      have ha := (checkB_iff a).1 (hf.each a (by rw [hL]; simp))
      have h1 : hasR a a.c1 a.r1 = true := (hasR_iff a _ _).2 ⟨⟨by omega, by omega⟩, by omega, by omega⟩
      have := any_left r l hr hl a.c1 a.r1
      rw [hL, show anyR (a :: L) a.c1 a.r1 = true from by simp [anyR, h1]] at this
      have h2 : hasR r a.c1 a.r1 = true ∧ anyR l a.c1 a.r1 = false := by simpa using this.symm
      rw [h _ _ h2.1] at h2
      exact absurd h2.2 (by simp)
end Go.Proofs.YtkdabfepggehiaaDoor
