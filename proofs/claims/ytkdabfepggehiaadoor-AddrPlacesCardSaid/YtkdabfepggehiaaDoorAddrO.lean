/- Plain: columns grow with the length of their letters, and then with the alphabet. -/
import Derived.Test.YtkdabfepggehiaaDoorAddrL
namespace Go.Proofs.YtkdabfepggehiaaDoor
open Go.Op (bytesLess)

theorem less_snoc_same (a : List UInt8) (x y : UInt8) (h : x < y) : bytesLess (a ++ [x]) (a ++ [y]) = true := by
  induction a with
  | nil => simp [bytesLess, h]
  | cons b a ih => simp [bytesLess, ih]
theorem less_snoc (a b : List UInt8) (x y : UInt8) (hl : a.length = b.length) (h : bytesLess a b = true) : bytesLess (a ++ [x]) (b ++ [y]) = true := by
  induction a generalizing b with
  | nil =>
    match b, hl with
    | [], _ => simp [bytesLess] at h
  | cons c a ih =>
    match b, hl with
    | d :: b, hl =>
      simp only [bytesLess, List.cons_append, Bool.or_eq_true, Bool.and_eq_true, decide_eq_true_eq] at h ⊢
      rcases h with h | ⟨h1, h2⟩
      · exact .inl h
      · exact .inr ⟨h1, ih b (by simpa using hl) h2⟩
theorem less_asymm (a b : List UInt8) (h : bytesLess a b = true) : bytesLess b a = false := by
  induction a generalizing b with
  | nil =>
    match b with
    | [] => simp [bytesLess]
    | d :: b => simp [bytesLess]
  | cons c a ih =>
    match b with
    | [] => simp [bytesLess] at h
    | d :: b =>
      simp only [bytesLess, Bool.or_eq_true, Bool.and_eq_true, decide_eq_true_eq, beq_iff_eq] at h
      simp only [bytesLess, Bool.or_eq_false_iff, Bool.and_eq_false_iff, decide_eq_false_iff_not, beq_eq_false_iff_ne]
      rcases h with h | ⟨h1, h2⟩
      · exact ⟨fun h' => absurd h (by rw [UInt8.lt_iff_toNat_lt] at *; omega), .inl (fun e => by subst e; rw [UInt8.lt_iff_toNat_lt] at h; omega)⟩
      · subst h1
        exact ⟨fun h' => by rw [UInt8.lt_iff_toNat_lt] at h'; omega, .inr (ih b h2)⟩
theorem less_irrefl (a : List UInt8) : bytesLess a a = false := by
  induction a with
  | nil => rfl
  | cons c a ih => simp [bytesLess, ih]

theorem letters_grow (y : Nat) : ∀ x, x < y → (lettersN x).length < (lettersN y).length ∨ ((lettersN x).length = (lettersN y).length ∧ bytesLess (lettersN x) (lettersN y) = true) := by
  induction y using Nat.strongRecOn with
  | _ y ih =>
    intro x hxy
    rw [lettersN_pos y (by omega)]
    rcases Nat.eq_zero_or_pos x with rfl | hx
    · left; simp [lettersN_zero]
    · rw [lettersN_pos x hx]
      have hxl : (UInt8.ofNat (65 + (x - 1) % 26)).toNat = 65 + (x - 1) % 26 := by rw [UInt8.toNat_ofNat']; omega
      have hyl : (UInt8.ofNat (65 + (y - 1) % 26)).toNat = 65 + (y - 1) % 26 := by rw [UInt8.toNat_ofNat']; omega
      generalize UInt8.ofNat (65 + (x - 1) % 26) = p at hxl ⊢
      generalize UInt8.ofNat (65 + (y - 1) % 26) = q at hyl ⊢
      by_cases hq : (x - 1) / 26 = (y - 1) / 26
      · right
        rw [hq]
        refine ⟨by simp, less_snoc_same _ _ _ ?_⟩
        rw [UInt8.lt_iff_toNat_lt]; omega
      · rcases ih ((y - 1) / 26) (by omega) ((x - 1) / 26) (by omega) with h | ⟨h1, h2⟩
        · left; simpa using h
        · right; exact ⟨by simpa using h1, less_snoc _ _ _ _ h1 h2⟩

/-- length first, then the alphabet -/
def beforeL (a b : List UInt8) : Bool := decide ((a.length : Int) < (b.length : Int)) || (((a.length : Int) == (b.length : Int)) && bytesLess a b)
theorem before_iff (x y : Nat) : beforeL (lettersN x) (lettersN y) = decide (x < y) := by
  unfold beforeL
  rcases Nat.lt_trichotomy x y with h | h | h
  · rw [decide_eq_true h]
    rcases letters_grow y x h with h1 | ⟨h1, h2⟩
    · rw [decide_eq_true (by omega)]; rfl
    · rw [h1, h2]; simp
  · subst h
    rw [less_irrefl]; simp
  · rw [decide_eq_false (show ¬ x < y by omega)]
    rcases letters_grow x y h with h1 | ⟨h1, h2⟩
    · rw [decide_eq_false (by omega), show (((lettersN x).length : Int) == ((lettersN y).length : Int)) = false from by rw [beq_eq_false_iff_ne]; omega]; rfl
    · rw [h1, less_asymm _ _ h2]; simp

theorem index_at (i : Int) (h0 : 0 ≤ i) (h1 : i < 1048576) : indexS (i % 1024 + 1) (i / 1024 + 1) = (i, 0) := by
  unfold indexS
  rw [if_pos (by simp only [validN, decide_eq_true_eq]; omega)]
  congr 1; omega
theorem less_at (i j : Int) (_h0 : 0 ≤ i) (_h1 : 0 ≤ j) : lessS (i % 1024 + 1) (i / 1024 + 1) (j % 1024 + 1) (j / 1024 + 1) = decide (i < j) := by
  unfold lessS
  rw [decide_eq_decide]; omega
theorem atS_good (i : Int) (h0 : 0 ≤ i) (h1 : i < 1048576) : atS i = (i % 1024 + 1, i / 1024 + 1, 0) := by unfold atS; rw [if_pos ⟨h0, h1⟩]
theorem atS_bad (i : Int) (h : ¬ (0 ≤ i ∧ i < 1048576)) : atS i = (0, 0, 3) := by unfold atS; rw [if_neg h]
end Go.Proofs.YtkdabfepggehiaaDoor
