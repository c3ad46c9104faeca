/- Plain law of RectAll: a range is covered exactly if each of its addresses, counted row by row, is in one of the ranges. -/
import Derived.Test.YtkdabfepggehiaaDoorRefR
import Derived.Test.YtkdabfepggehiaaDoorCovW
import Derived.Test.YtkdabfepggehiaaDoorRectQ
namespace Go.Proofs.YtkdabfepggehiaaDoor
open Go.RowKit

/-- the ranges backwards, the first one behind each -/
def turnF (f : Nat → R4) (n : Nat) (j : Nat) : R4 := if j % 2 = 0 then f (n - 1 - j / 2) else f 0
theorem turn_two (f : Nat → R4) (n k : Nat) : listR (turnF f n) (2 * (k + 1)) = listR (turnF f n) (2 * k) ++ [f (n - 1 - k), f 0] := by
  rw [show 2 * (k + 1) = (2 * k + 1) + 1 from by omega, listR_succ, listR_succ]
  simp [turnF]
theorem mem_listR (f : Nat → R4) (n : Nat) (r : R4) : r ∈ listR f n ↔ ∃ i, i < n ∧ f i = r := by simp [listR]
theorem turn_mem (f : Nat → R4) (n : Nat) (r : R4) : r ∈ listR (turnF f n) (2 * n) ↔ r ∈ listR f n := by
  rw [mem_listR, mem_listR]
  constructor
  · rintro ⟨j, hj, rfl⟩
    unfold turnF
    split
    · exact ⟨n - 1 - j / 2, by omega, rfl⟩
    · exact ⟨0, by omega, rfl⟩
  · rintro ⟨i, hi, rfl⟩
    refine ⟨2 * (n - 1 - i), by omega, ?_⟩
    unfold turnF
    rw [if_pos (by omega), show n - 1 - 2 * (n - 1 - i) / 2 = i from by omega]
theorem turn_any (f : Nat → R4) (n : Nat) (p q : Int) : anyR (listR (turnF f n) (2 * n)) p q = anyR (listR f n) p q := by
  unfold anyR
  rw [Bool.eq_iff_iff, List.any_eq_true, List.any_eq_true]
  constructor
  · rintro ⟨r, hr, h⟩; exact ⟨r, (turn_mem f n r).1 hr, h⟩
  · rintro ⟨r, hr, h⟩; exact ⟨r, (turn_mem f n r).2 hr, h⟩
theorem turn_all {f : Nat → R4} {n : Nat} (h : allB f n = true) : allB (turnF f n) (2 * n) = true :=
  (listR_all _ _).2 fun x hx => (listR_all f n).1 h x ((turn_mem f n x).1 hx)
theorem turn_covers (r : R4) (f : Nat → R4) (n : Nat) (hr : checkB r = true) (h : allB f n = true) : coversP r (listR (turnF f n) (2 * n)) = coversP r (listR f n) := by
  rw [Bool.eq_iff_iff, covers_iff r _ hr ((listR_all _ _).1 (turn_all h)), covers_iff r _ hr ((listR_all _ _).1 h)]
  simp only [turn_any]
theorem inF_list (f : Nat → R4) (x y : Int) (n : Nat) : inF f x y n = anyR (listR f n) x y := by
  induction n with
  | zero => rfl
  | succ n ih =>
    rw [listR_succ, inF, ih]
    simp [anyR, List.any_append]
/-- the first k addresses of a range are in one of the ranges -/
def allT (r : R4) (f : Nat → R4) (n k : Nat) : Bool := (List.range k).all fun i => inF f (refAt (r.c2 - r.c1 + 1) r.c1 r.r1 i).1 (refAt (r.c2 - r.c1 + 1) r.c1 r.r1 i).2 n
theorem allT_succ (r : R4) (f : Nat → R4) (n k : Nat) : allT r f n (k + 1) = (allT r f n k && inF f (refAt (r.c2 - r.c1 + 1) r.c1 r.r1 k).1 (refAt (r.c2 - r.c1 + 1) r.c1 r.r1 k).2 n) := by
  simp [allT, List.range_succ, List.all_append]
theorem allT_covers (r : R4) (f : Nat → R4) (n m : Nat) (hr : checkB r = true) (h : allB f n = true) (hm : areaN r = (m : Int)) : allT r f n m = coversP r (listR f n) := by
  have hc := (checkB_iff _).1 hr
  obtain ⟨C, hC⟩ : ∃ C, r.c2 - r.c1 + 1 = C := ⟨_, rfl⟩
  obtain ⟨D, hD⟩ : ∃ D, r.r2 - r.r1 + 1 = D := ⟨_, rfl⟩
  have hC0 : 1 ≤ C := by omega
  have hD0 : 1 ≤ D := by omega
  have hCD : (m : Int) = C * D := by rw [← hm, ← hC, ← hD]; rfl
  rw [Bool.eq_iff_iff, covers_iff r _ hr ((listR_all _ _).1 h)]
  unfold allT
  rw [List.all_eq_true]
  simp only [inF_list, List.mem_range]
  rw [hC]
  constructor
  · intro ha p q hpq
    rw [hasR_iff] at hpq
    obtain ⟨j, hj⟩ : ∃ j : Nat, p = r.c1 + j := ⟨(p - r.c1).toNat, by omega⟩
    obtain ⟨k, hk⟩ : ∃ k : Nat, q = r.r1 + k := ⟨(q - r.r1).toNat, by omega⟩
    obtain ⟨i, hi⟩ : ∃ i : Nat, (i : Int) = (k : Int) * C + j := ⟨((k : Int) * C + j).toNat, by
      have : 0 ≤ (k : Int) * C := Int.mul_nonneg (by omega) (by omega)
      omega⟩
    have hlt : i < m := by
      have h1 : C * k + C ≤ C * D := by
        have := Int.mul_le_mul_of_nonneg_left (show (k : Int) + 1 ≤ D by omega) (show 0 ≤ C by omega)
        rw [Int.mul_add, Int.mul_one] at this
        exact this
      rw [Int.mul_comm] at hi
      omega
    have hx := ha i hlt
    rw [refAt_spot C r.c1 r.r1 k j (by omega) i hi] at hx
    rw [hj, hk]
    exact hx
  · intro ha i hi
    refine ha _ _ ?_
    rw [hasR_iff]
    unfold refAt
    have e1 := Int.emod_nonneg (i : Int) (show C ≠ 0 by omega)
    have e2 := Int.emod_lt_of_pos (i : Int) (show 0 < C by omega)
    have e3 : 0 ≤ (i : Int) / C := Int.ediv_nonneg (by omega) (by omega)
    have e4 : (i : Int) / C < D := Int.ediv_lt_of_lt_mul (by omega) (by rw [Int.mul_comm]; omega)
    simp only []
    omega
end Go.Proofs.YtkdabfepggehiaaDoor
