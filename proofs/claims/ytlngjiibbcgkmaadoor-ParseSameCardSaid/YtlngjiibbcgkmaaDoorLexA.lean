/- Contracts of the lexer's tests of bytes. -/
import Derived.Test.YtlngjiibbcgkmaaDoorLexP
namespace Go.Proofs.YtlngjiibbcgkmaaDoor
open Go.RowKit

theorem dig_int (b : UInt8) : isDig b = (decide (48 ≤ (b.toNat : Int)) && decide ((b.toNat : Int) ≤ 57)) := by
  unfold isDig
  rw [Bool.eq_iff_iff]
  simp only [Bool.and_eq_true, decide_eq_true_eq]
  omega
theorem let_iff (b : UInt8) : isLet b = true ↔ (65 ≤ b.toNat ∧ b.toNat ≤ 90) ∨ (97 ≤ b.toNat ∧ b.toNat ≤ 122) := by
  unfold isLet letV
  split
  · simp; omega
  · split
    · simp; omega
    · simp; omega
set_option maxRecDepth 100000 in
theorem lex_digit (b : UInt8) (w : World) :
    Calls Tryd.prog 28 #[.int .u8 b.toNat] w fun e w' => e = .returned (.bool (isDig b)) ∧ w' = w := by
  rw [dig_int]
  generalize (b.toNat : Int) = x
  by_cases h1 : 48 ≤ x
  · go_enter Tryd.func28, Tryd.ntmps28
    go_wp2_with fail
    go_ret
    exact ⟨by simp <;> omega, rfl⟩
  · go_enter Tryd.func28, Tryd.ntmps28
    go_wp2_with fail
    go_ret
    exact ⟨by simp <;> omega, rfl⟩
set_option maxRecDepth 100000 in
theorem lex_letter (b : UInt8) (w : World) :
    Calls Tryd.prog 31 #[.int .u8 b.toNat] w fun e w' => e = .returned (.bool (isLet b)) ∧ w' = w := by
  have hb := let_iff b
  generalize isLet b = v at hb
  obtain ⟨x, hx⟩ : ∃ x : Int, (b.toNat : Int) = x := ⟨_, rfl⟩
  have hv : v = decide ((65 ≤ x ∧ x ≤ 90) ∨ (97 ≤ x ∧ x ≤ 122)) := by
    rw [Bool.eq_iff_iff, hb, decide_eq_true_eq]
    omega
  rw [hx, hv]
  clear hb hx hv
  by_cases h1 : 65 ≤ x <;> by_cases h2 : x ≤ 90 <;> by_cases h3 : 97 ≤ x
  all_goals
    go_enter Tryd.func31, Tryd.ntmps31
    go_wp2_with fail
    go_ret
    exact ⟨by simp <;> omega, rfl⟩
set_option maxRecDepth 100000 in
theorem lex_wrd (b : UInt8) (w : World) :
    Calls Tryd.prog 51 #[.int .u8 b.toNat] w fun e w' => e = .returned (.bool (isWrd b)) ∧ w' = w := by
  go_enter Tryd.func51, Tryd.ntmps51
  go_wp2_with fail
  refine (lex_letter _ _).mono ?_
  rintro e w1 ⟨rfl, rfl⟩
  cases hl : isLet b
  · go_wp2_with fail
    refine (lex_digit _ _).mono ?_
    rintro e w2 ⟨rfl, rfl⟩
    have hd : isWrd b = isDig b := by unfold isWrd; rw [hl]; rfl
    go_wp2_with fail
    go_ret
    exact ⟨by rw [hd]; rfl, rfl⟩
  · have hd : isWrd b = true := by unfold isWrd; rw [hl]; rfl
    go_wp2_with fail
    go_ret
    exact ⟨by rw [hd]; rfl, rfl⟩
end Go.Proofs.YtlngjiibbcgkmaaDoor
