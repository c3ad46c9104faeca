/- Contracts of the reference's tests of bytes, and of the end of a word. -/
import Derived.Test.YtlngjiibbcgkmaaGreatDoorLexC
namespace Go.Proofs.YtlngjiibbcgkmaaGreatDoor
open Go.RowKit

/-- the byte at a place passes a test -/
def testAt (p : UInt8 → Bool) (s : ByteArray) (i : Nat) : Bool := s.data.toList[i]?.any p
theorem test_in {p : UInt8 → Bool} {s : ByteArray} {i : Nat} (h : i < s.size) : testAt p s i = p (s[i]'h) := by
  unfold testAt
  rw [List.getElem?_eq_getElem (by rw [Array.length_toList]; exact h)]
  rfl
theorem test_out {p : UInt8 → Bool} {s : ByteArray} {i : Nat} (h : ¬ i < s.size) : testAt p s i = false := by
  unfold testAt
  rw [List.getElem?_eq_none (by rw [Array.length_toList]; exact Nat.le_of_not_lt h)]
  rfl
set_option maxRecDepth 100000 in
theorem ref7_digit (s : ByteArray) (i : Nat) (w : World) :
    Calls Tryz.prog 69 #[.string s, .int .i64 (i : Int)] w fun e w' => e = .returned (.bool (testAt isDig s i)) ∧ w' = w := by
  by_cases hlt : (i : Int) < s.size
  · have hi : i < s.size := by omega
    have hd := (test_in (p := isDig) hi).trans (dig_int (s[i]'hi))
    have HD := keep hd
    clear hd
    by_cases h1 : 48 ≤ ((s[i]'hi).toNat : Int)
    · by_cases h2 : ((s[i]'hi).toNat : Int) ≤ 57
      · have HE := keep (show testAt isDig s i = true by rw [HD.out]; simp; omega)
        go_enter Tryz.func69, Tryz.ntmps69
        go_wp2_with fail
        go_ret
        exact ⟨by rw [HE.out]; rfl, rfl⟩
      · have HE := keep (show testAt isDig s i = false by rw [HD.out]; simp; omega)
        go_enter Tryz.func69, Tryz.ntmps69
        go_wp2_with fail
        go_ret
        exact ⟨by rw [HE.out]; rfl, rfl⟩
    · have HE := keep (show testAt isDig s i = false by rw [HD.out]; simp; omega)
      go_enter Tryz.func69, Tryz.ntmps69
      go_wp2_with fail
      go_ret
      exact ⟨by rw [HE.out]; rfl, rfl⟩
  · have HE := keep (test_out (p := isDig) (s := s) (i := i) (by omega))
    go_enter Tryz.func69, Tryz.ntmps69
    go_wp2_with fail
    go_ret
    exact ⟨by rw [HE.out]; rfl, rfl⟩
theorem let_int (b : UInt8) : isLet b = decide ((65 ≤ (b.toNat : Int) ∧ (b.toNat : Int) ≤ 90) ∨ (97 ≤ (b.toNat : Int) ∧ (b.toNat : Int) ≤ 122)) := by
  rw [Bool.eq_iff_iff, let_iff, decide_eq_true_eq]
  omega
set_option maxRecDepth 100000 in
theorem ref7_letter (s : ByteArray) (i : Nat) (w : World) :
    Calls Tryz.prog 72 #[.string s, .int .i64 (i : Int)] w fun e w' => e = .returned (.bool (testAt isLet s i)) ∧ w' = w := by
  by_cases hlt : (i : Int) < s.size
  · have hi : i < s.size := by omega
    have hd := (test_in (p := isLet) hi).trans (let_int (s[i]'hi))
    have HD := keep hd
    clear hd
    rcases (show (((s[i]'hi).toNat : Int) < 65) ∨ (65 ≤ ((s[i]'hi).toNat : Int) ∧ ((s[i]'hi).toNat : Int) ≤ 90) ∨ (90 < ((s[i]'hi).toNat : Int) ∧ ((s[i]'hi).toNat : Int) < 97) ∨ (97 ≤ ((s[i]'hi).toNat : Int) ∧ ((s[i]'hi).toNat : Int) ≤ 122) ∨ 122 < ((s[i]'hi).toNat : Int) from by omega) with h1 | ⟨h1, h2⟩ | ⟨h1, h2⟩ | ⟨h1, h2⟩ | h1
    · have h3 : ((s[i]'hi).toNat : Int) < 97 := by omega
      have HE := keep (show testAt isLet s i = false by rw [HD.out]; simp; omega)
      go_enter Tryz.func72, Tryz.ntmps72
      go_wp2_with fail
      go_ret
      exact ⟨by rw [HE.out]; simp <;> omega, rfl⟩
    · have HE := keep (show testAt isLet s i = true by rw [HD.out]; simp; omega)
      go_enter Tryz.func72, Tryz.ntmps72
      go_wp2_with fail
      go_ret
      exact ⟨by rw [HE.out]; simp <;> omega, rfl⟩
    · have h3 : 65 ≤ ((s[i]'hi).toNat : Int) := by omega
      have HE := keep (show testAt isLet s i = false by rw [HD.out]; simp; omega)
      go_enter Tryz.func72, Tryz.ntmps72
      go_wp2_with fail
      go_ret
      exact ⟨by rw [HE.out]; simp <;> omega, rfl⟩
    · have h3 : 65 ≤ ((s[i]'hi).toNat : Int) := by omega
      have h4 : 90 < ((s[i]'hi).toNat : Int) := by omega
      have HE := keep (show testAt isLet s i = true by rw [HD.out]; simp; omega)
      go_enter Tryz.func72, Tryz.ntmps72
      go_wp2_with fail
      go_ret
      exact ⟨by rw [HE.out]; simp <;> omega, rfl⟩
    · have h3 : 65 ≤ ((s[i]'hi).toNat : Int) := by omega
      have h4 : 90 < ((s[i]'hi).toNat : Int) := by omega
      have h5 : 97 ≤ ((s[i]'hi).toNat : Int) := by omega
      have HE := keep (show testAt isLet s i = false by rw [HD.out]; simp; omega)
      go_enter Tryz.func72, Tryz.ntmps72
      go_wp2_with fail
      go_ret
      exact ⟨by rw [HE.out]; simp <;> omega, rfl⟩
  · have HE := keep (test_out (p := isLet) (s := s) (i := i) (by omega))
    go_enter Tryz.func72, Tryz.ntmps72
    go_wp2_with fail
    go_ret
    exact ⟨by rw [HE.out]; simp <;> omega, rfl⟩
theorem wrd_step (s : ByteArray) (i : Nat) : testAt isWrd s i = (testAt isLet s i || testAt isDig s i) := by
  unfold testAt
  cases s.data.toList[i]? <;> rfl
theorem wrd_run (s : ByteArray) (i : Nat) : (wrdRun s i).length = if testAt isWrd s i = true then (wrdRun s (i + 1)).length + 1 else 0 := by
  unfold wrdRun testAt
  cases h : s.data.toList[i]? with
  | none =>
    rw [List.drop_of_length_le (List.getElem?_eq_none_iff.1 h)]
    rfl
  | some b =>
    obtain ⟨hi, rfl⟩ := List.getElem?_eq_some_iff.1 h
    rw [List.drop_eq_getElem_cons hi, List.takeWhile_cons]
    show _ = if isWrd s.data.toList[i] = true then _ else _
    split <;> simp
set_option maxRecDepth 100000 in
theorem ref7_wordEnd (s : ByteArray) (i : Nat) (w : World) (hs : s.size ≤ 4611686018427387904) (hi : i ≤ s.size) :
    Calls Tryz.prog 105 #[.string s, .int .i64 (i : Int)] w fun e w' => e = .returned (.int .i64 ((i + (wrdRun s i).length : Nat) : Int)) ∧ w' = w := by
  obtain ⟨z, hz⟩ : ∃ z, i + (wrdRun s i).length = z := ⟨_, rfl⟩
  rw [hz]
  have HZ := keep hz
  clear hz
  go_enter Tryz.func105, Tryz.ntmps105
  go_wp2_with fail
  go_loopw [1] (fun iv wr => ∃ k : Nat, k ≤ s.size ∧ iv = .int .i64 (k : Int) ∧ Keep (k + (wrdRun s k).length = z) ∧ wr = w) (fun iv _ => s.size - (intOf iv).toNat)
  case atStart => exact ⟨i, hi, rfl, HZ, rfl⟩
  case round =>
    obtain ⟨k, hk, rfl, HX, rfl⟩ := hrel
    have hst := wrd_step s k
    have hrn := wrd_run s k
    have hout : k = s.size → testAt isWrd s k = false := fun e => test_out (by omega)
    cases hL : testAt isLet s k
    · cases hD : testAt isDig s k
      · rw [hL, hD] at hst
        rw [hst] at hrn
        have hz2 := HX.out
        rw [hrn] at hz2
        have HZ2 := keep hz2
        have HLL := keep hL
        have HDD := keep hD
        clear hst hrn hout hL hD hz2
        go_wp2_with fail
        refine (ref7_letter s k _).mono ?_
        rintro e w2 ⟨rfl, hw2⟩
        subst hw2
        rw [HLL.out]
        go_wp2_with fail
        refine (ref7_digit s k _).mono ?_
        rintro e w3 ⟨rfl, hw3⟩
        subst hw3
        rw [HDD.out]
        go_wp2_with fail
        go_ret
        exact ⟨by rw [← HZ2.out]; rfl, rfl⟩
      · rw [hL, hD] at hst
        have hkl : k < s.size := Nat.lt_of_le_of_ne hk (fun e => by rw [hout e] at hst; cases hst)
        rw [hst] at hrn
        have hz2 := HX.out
        rw [hrn] at hz2
        have HZ2 := keep hz2
        have HLL := keep hL
        have HDD := keep hD
        clear hst hrn hout hL hD hz2
        go_wp2_with fail
        refine (ref7_letter s k _).mono ?_
        rintro e w2 ⟨rfl, hw2⟩
        subst hw2
        rw [HLL.out]
        go_wp2_with fail
        refine (ref7_digit s k _).mono ?_
        rintro e w3 ⟨rfl, hw3⟩
        subst hw3
        rw [HDD.out]
        go_wp2_with fail
        go_roundw
        case rel => exact ⟨k + 1, by omega, by go_num, keep (by have h9 := HZ2.out; simp at h9; omega), by first | trivial | rfl⟩
        case measure => simp [intOf]; omega
    · rw [hL] at hst
      have hkl : k < s.size := Nat.lt_of_le_of_ne hk (fun e => by rw [hout e] at hst; cases hst)
      rw [Bool.true_or] at hst
      rw [hst] at hrn
      have hz2 := HX.out
      rw [hrn] at hz2
      have HZ2 := keep hz2
      have HLL := keep hL
      clear hst hrn hout hL hz2
      go_wp2_with fail
      refine (ref7_letter s k _).mono ?_
      rintro e w2 ⟨rfl, hw2⟩
      subst hw2
      rw [HLL.out]
      go_wp2_with fail
      go_roundw
      case rel => exact ⟨k + 1, by omega, by go_num, keep (by have h9 := HZ2.out; simp at h9; omega), by first | trivial | rfl⟩
      case measure => simp [intOf]; omega
end Go.Proofs.YtlngjiibbcgkmaaGreatDoor
