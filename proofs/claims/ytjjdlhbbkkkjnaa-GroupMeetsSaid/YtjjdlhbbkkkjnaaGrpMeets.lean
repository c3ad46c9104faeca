/- The walk of the law GroupMeets: at a slice that reads as 64-bit numbers it returns true, and nothing that was there is written. Condition: what the reach of the form gives. -/
import Derived.Test.YtjjdlhbbkkkjnaaGrp
import Derived.StillTailTactics
namespace Go.Proofs.Ytjjdlhbbkkkjnaa
open Go.RowKit

namespace Meets
def inF (f : Nat → Nat) (n : Nat) (u : Int) : Nat → Bool
  | 0 => decide (0 ≤ u ∧ u < 64)
  | m + 1 => inF f n u m && hasB (f (n - 1 - m)) u
def aF (f : Nat → Nat) (n : Nat) (o : Nat) : Nat → Bool
  | 0 => true
  | m + 1 => aF f n o m && (o &&& (18446744073709551615 - f (n - 1 - m)) == 0)
def bk (f : Nat → Nat) (n : Nat) (t : Nat) : Nat := f (n - 1 - t / 2)

theorem testBit_meetF (f : Nat → Nat) (n u : Nat) : (meetF f n).testBit u = true ↔ u < 64 ∧ ∀ i, i < n → (f i).testBit u = true := by
  induction n with
  | zero =>
    have e : meetF f 0 = 2 ^ 64 - 1 := by unfold meetF; decide
    rw [e, Nat.testBit_two_pow_sub_one]
    simp
  | succ n ih =>
    rw [meetF_succ, Nat.testBit_and, Bool.and_eq_true, ih]
    constructor
    · rintro ⟨⟨h1, h2⟩, h3⟩
      refine ⟨h1, fun i hi => ?_⟩
      rcases Nat.lt_or_ge i n with h | h
      · exact h2 i h
      · have : i = n := by omega
        subst this; exact h3
    · rintro ⟨h1, h2⟩
      exact ⟨⟨h1, fun i hi => h2 i (by omega)⟩, h2 n (by omega)⟩

theorem meet_back (f : Nat → Nat) (n : Nat) : meetF (bk f n) (2 * n) = meetF f n := by
  apply Nat.eq_of_testBit_eq
  intro u
  rw [Bool.eq_iff_iff, testBit_meetF, testBit_meetF]
  constructor
  · rintro ⟨h0, h⟩
    refine ⟨h0, fun i hi => ?_⟩
    have := h (2 * (n - 1 - i)) (by omega)
    unfold bk at this
    rw [show n - 1 - 2 * (n - 1 - i) / 2 = i from by omega] at this
    exact this
  · rintro ⟨h0, h⟩
    exact ⟨h0, fun i hi => h _ (by omega)⟩

theorem hasB_iff (s : Nat) (u : Int) : hasB s u = true ↔ (0 ≤ u ∧ u < 64) ∧ s.testBit u.toNat = true := by
  unfold hasB; simp only [Bool.and_eq_true, decide_eq_true_eq]

theorem has_meet (f : Nat → Nat) (n : Nat) (u : Int) : inF f n u n = hasB (meetF f n) u := by
  have key : ∀ m, m ≤ n → (inF f n u m = true ↔ (0 ≤ u ∧ u < 64) ∧ (∀ i, n - m ≤ i → i < n → (f i).testBit u.toNat = true)) := by
    intro m
    induction m with
    | zero => intro _; simp only [inF, decide_eq_true_eq]; exact ⟨fun h => ⟨h, fun i h1 h2 => by omega⟩, fun h => h.1⟩
    | succ m ih =>
      intro hm
      rw [inF, Bool.and_eq_true, ih (by omega), hasB_iff]
      constructor
      · rintro ⟨⟨h1, h2⟩, h3, h4⟩
        refine ⟨h1, fun i h5 h6 => ?_⟩
        rcases Nat.lt_or_ge i (n - m) with h | h
        · have : i = n - 1 - m := by omega
          subst this; exact h4
        · exact h2 i h h6
      · rintro ⟨h1, h2⟩
        exact ⟨⟨h1, fun i h3 h4 => h2 i (by omega) h4⟩, h1, h2 _ (by omega) (by omega)⟩
  rw [Bool.eq_iff_iff, key n (Nat.le_refl _), hasB_iff, testBit_meetF]
  constructor
  · rintro ⟨h1, h2⟩
    exact ⟨h1, by omega, fun i hi => h2 i (by omega) hi⟩
  · rintro ⟨h1, _, h2⟩
    exact ⟨h1, fun i _ hi => h2 i hi⟩

theorem andNot_zero (a b : Nat) (ha : a < 18446744073709551616) (hb : b < 18446744073709551616) : (a &&& (18446744073709551615 - b) = 0) ↔ ∀ u, a.testBit u = true → b.testBit u = true := by
  have e : (18446744073709551615 : Nat) = 2 ^ 64 - 1 := by decide
  constructor
  · intro h u hu
    have h1 : (a &&& (18446744073709551615 - b)).testBit u = false := by rw [h]; simp
    rw [Nat.testBit_and, hu, e, show 2 ^ 64 - 1 - b = 2 ^ 64 - (b + 1) from by omega, Nat.testBit_two_pow_sub_succ (by omega)] at h1
    have h64 : u < 64 := by
      rcases Nat.lt_or_ge u 64 with h2 | h2
      · exact h2
      · have : a < 2 ^ u := Nat.lt_of_lt_of_le (by omega) (Nat.pow_le_pow_right (by omega) h2)
        rw [Nat.testBit_lt_two_pow this] at hu; cases hu
    simpa [h64] using h1
  · intro h
    apply Nat.eq_of_testBit_eq
    intro u
    rw [Nat.testBit_and, e, show 2 ^ 64 - 1 - b = 2 ^ 64 - (b + 1) from by omega, Nat.testBit_two_pow_sub_succ (by omega)]
    cases hu : a.testBit u
    · simp
    · simp [h u hu]

theorem meet_sub (f : Nat → Nat) (n i : Nat) (hi : i < n) (hz : ∀ i, f i < 18446744073709551616) : meetF f n &&& (18446744073709551615 - f i) = 0 := by
  rw [andNot_zero _ _ (meetF_lt f n) (hz i)]
  intro u hu
  rw [testBit_meetF] at hu
  exact hu.2 i hi

theorem all_meet (f : Nat → Nat) (n o : Nat) (ho : o < 18446744073709551616) (hz : ∀ i, f i < 18446744073709551616) : aF f n o n = (o &&& (18446744073709551615 - meetF f n) == 0) := by
  have key : ∀ m, m ≤ n → (aF f n o m = true ↔ ∀ i, n - m ≤ i → i < n → o &&& (18446744073709551615 - f i) = 0) := by
    intro m
    induction m with
    | zero => intro _; simp [aF]; omega
    | succ m ih =>
      intro hm
      simp only [aF, Bool.and_eq_true, ih (by omega), beq_iff_eq]
      constructor
      · rintro ⟨h1, h2⟩ i h5 h6
        rcases Nat.lt_or_ge i (n - m) with h | h
        · have : i = n - 1 - m := by omega
          subst this; exact h2
        · exact h1 i h h6
      · intro h
        exact ⟨fun i h3 h4 => h i (by omega) h4, h _ (by omega) (by omega)⟩
  rw [Bool.eq_iff_iff, key n (Nat.le_refl _), beq_iff_eq, andNot_zero _ _ ho (meetF_lt f n)]
  constructor
  · intro h u hu
    rw [testBit_meetF]
    have h64 : u < 64 := by
      rcases Nat.lt_or_ge u 64 with h2 | h2
      · exact h2
      · have : o < 2 ^ u := Nat.lt_of_lt_of_le (by omega) (Nat.pow_le_pow_right (by omega) h2)
        rw [Nat.testBit_lt_two_pow this] at hu; cases hu
    exact ⟨h64, fun i hi => (andNot_zero _ _ ho (hz i)).1 (h i (by omega) hi) u hu⟩
  · intro h i _ hi
    rw [andNot_zero _ _ ho (hz i)]
    intro u hu
    have := h u hu
    rw [testBit_meetF] at this
    exact this.2 i hi

/-- the cells of 'back' behind m rounds -/
def cellsB (f : Nat → Nat) (n m : Nat) : List Value := (List.range (2 * m)).map fun t => .int .u64 (bk f n t : Nat)
theorem cellsB_succ (f : Nat → Nat) (n m : Nat) : cellsB f n (m + 1) = cellsB f n m ++ [.int .u64 (f (n - 1 - m) : Nat), .int .u64 (f (n - 1 - m) : Nat)] := by
  unfold cellsB
  rw [show 2 * (m + 1) = 2 * m + 1 + 1 from by omega, List.range_succ, List.range_succ]
  simp [bk, show (2 * m + 1) / 2 = m from by omega]

theorem info_u64 : (Try.prog.info? 23).map (fun i => (i.zero, i.size, i.bytes)) = some (some (.int .u64 0), 1, 8) := by kernel_rfl

theorem reads_below {k : IntKind} {w w' : World} {B B' n : Nat} {a : Option Addr} {f : Nat → Nat} (h : IsNums k w B a n f) (hb : Below B w w') (hB : B ≤ B') : IsNums k w' B' a n f := by
  intro hn
  obtain ⟨ad, e, h1, h2⟩ := h hn
  exact ⟨ad, e, by omega, fun i hi => (hb.cell (by rw [show (ad.add i).block = ad.block from by unfold Addr.add; split <;> rfl]; exact h1)).trans (h2 i hi)⟩

def Rel (f : Nat → Nat) (n other B : Nat) (user : Int) (w : World) (b iv av i : Value) (wr : World) : Prop :=
  ∃ m, m ≤ n ∧ ((m < n ∧ i = .int .i64 ((n - 1 - m : Nat) : Int)) ∨ (m = n ∧ i = .int .i64 (-1))) ∧ wr.ownsRow B 23 1 b (2 * m) (cellsB f n m) ∧ Below B w wr ∧ iv = .bool (inF f n user m) ∧ av = .bool (aF f n other m)
end Meets
end Go.Proofs.Ytjjdlhbbkkkjnaa
