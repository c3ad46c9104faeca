/- The contract of lex.Tokens. -/
import Derived.Test.YtlngjiibbcgkmaaDoorLexL
import Derived.Deep.LoopGhost
import Derived.WalkMore
namespace Go.Proofs.YtlngjiibbcgkmaaDoor
open Go.RowKit

def tkRow (t : Tk) : List Value := [.int .u8 t.kind, .int .i64 t.num, .string ⟨t.text.toArray⟩, .int .i64 t.r.c1, .int .i64 t.r.r1, .int .i64 t.r.c2, .int .i64 t.r.r2, .int .i64 (t.at_ : Nat)]
def tkCells (l : List Tk) : List Value := l.flatMap tkRow
theorem tkCells_snoc (l : List Tk) (t : Tk) : tkCells (l ++ [t]) = tkCells l ++ tkRow t := by simp [tkCells]
/-- the tokens read so far, up to byte k -/
def Tks (S : List UInt8) (k : Nat) (l : List Tk) : Prop := ∃ f, S.length - k ≤ f ∧ toksF S.length 0 S = (toksF f k (S.drop k)).map (l ++ ·)
theorem Tks.start (S : List UInt8) : Tks S 0 [] := ⟨S.length, by omega, by
  rw [List.drop_zero]
  cases toksF S.length 0 S with
  | error e => rfl
  | ok x => rfl⟩
theorem Tks.fuel {S : List UInt8} {k : Nat} {l : List Tk} (h : Tks S k l) (hk : k < S.length) : ∃ f, S.length - (k + 1) ≤ f ∧ toksF S.length 0 S = (toksF (f + 1) k (S[k] :: S.drop (k + 1))).map (l ++ ·) := by
  obtain ⟨f, h1, h2⟩ := h
  obtain ⟨g, rfl⟩ : ∃ g, f = g + 1 := ⟨f - 1, by omega⟩
  exact ⟨g, by omega, by rw [h2, List.drop_eq_getElem_cons hk]⟩
theorem Tks.blank {S : List UInt8} {k : Nat} {l : List Tk} (h : Tks S k l) (hk : k < S.length) (h1 : S[k] = 32) : Tks S (k + 1) l := by
  obtain ⟨f, h2, h3⟩ := h.fuel hk
  refine ⟨f, h2, ?_⟩
  rw [h3, toksF, if_pos h1]
theorem Tks.tok {S : List UInt8} {k n : Nat} {l : List Tk} {t : Tk} (h : Tks S k l) (hk : k < S.length) (h1 : S[k] ≠ 32) (ht : tokS k (S.drop k) = some (t, n)) : Tks S (k + n) (l ++ [t]) := by
  obtain ⟨f, h2, h3⟩ := h.fuel hk
  have hn := (tok_le ht).1
  refine ⟨f, by omega, ?_⟩
  rw [← List.drop_eq_getElem_cons hk] at h3
  rw [h3]
  have hd := List.drop_eq_getElem_cons hk
  rw [hd, toksF, if_neg h1, ← hd, ht]
  simp only [List.drop_drop]
  cases toksF f (k + n) (S.drop (k + n)) with
  | error e => rfl
  | ok x => simp [Except.map]
theorem Tks.bad {S : List UInt8} {k : Nat} {l : List Tk} (h : Tks S k l) (hk : k < S.length) (h1 : S[k] ≠ 32) (ht : tokS k (S.drop k) = none) : toksF S.length 0 S = .error k := by
  obtain ⟨f, h2, h3⟩ := h.fuel hk
  rw [h3]
  have hd := List.drop_eq_getElem_cons hk
  rw [toksF, if_neg h1, ← hd, ht]
  rfl
theorem Tks.done {S : List UInt8} {l : List Tk} (h : Tks S S.length l) : toksF S.length 0 S = .ok l := by
  obtain ⟨f, h2, h3⟩ := h
  rw [h3, List.drop_eq_nil_of_le (Nat.le_refl _)]
  cases f with
  | zero => simp [toksF, Except.map]
  | succ f => simp [toksF, Except.map]
def orR (a b : Option (Tk × Nat)) : Option (Tk × Nat) := match a with
  | some x => some x
  | none => b
theorem tok_rules (b : UInt8) (r : List UInt8) (i : Nat) : tokS i (b :: r) = orR (numR (b :: r) i) (orR (txtR (b :: r) i) (orR (wordR (b :: r) i) (orR (errR (b :: r) i) (signR (b :: r) i)))) := by
  have e35 : ∀ c : UInt8, c ≠ 35 → errR (c :: r) i = none := by
    intro c hc
    have h := err_no (x := [c]) (z := r) (by simpa using hc) (by simp)
    unfold errR
    rw [show c :: r = [c] ++ r from rfl, h]
    rfl
  rw [tok_cons]
  by_cases hd : isDig b = true
  · rw [if_pos hd]
    have hb : b ≠ 34 := by rintro rfl; revert hd; decide
    have hl : isLet b = false := let_not_dig hd
    have h35 : b ≠ 35 := by rintro rfl; revert hd; decide
    have e1 : txtR (b :: r) i = none := by unfold txtR; rw [if_neg (by simpa using hb)]
    have e2 : wordR (b :: r) i = none := by unfold wordR; rw [if_neg (by simp [hl])]
    have e4 : signR (b :: r) i = none := by
      unfold signR
      have h : opS (b :: r) = none := by
        cases h : opS (b :: r) with
        | none => rfl
        | some q =>
          obtain ⟨k, v, n⟩ := q
          rw [op_cons] at h
          have key : ∀ c : UInt8, isDig c = true → c ≠ 60 ∧ c ≠ 62 ∧ op1 c = none := by
            intro c hc
            have hc2 : 48 ≤ c.toNat ∧ c.toNat ≤ 57 := by simpa [isDig] using hc
            refine ⟨by rintro rfl; revert hc2; decide, by rintro rfl; revert hc2; decide, ?_⟩
            unfold op1
            rw [show opTab.find? (fun x => x.1 == c) = none from ?_]
            · rfl
            · rw [List.find?_eq_none]
              intro x hx
              have hall : ∀ y ∈ opTab, ¬ (48 ≤ y.1.toNat ∧ y.1.toNat ≤ 57) := by decide
              have hx2 := hall x hx
              intro e
              rw [beq_iff_eq] at e
              rw [e] at hx2
              exact hx2 hc2
          obtain ⟨k1, k2, k3⟩ := key b hd
          rw [if_neg k1, if_neg k2, k3] at h
          cases h
      rw [h]
      rfl
    rw [e1, e2, e35 b h35, e4]
    show (numS (b :: r)).map (fun x => ((⟨1, x.1, [], R4.zero, i⟩ : Tk), x.2)) = orR (numR (b :: r) i) none
    unfold numR
    cases numS (b :: r) <;> rfl
  · rw [if_neg hd]
    have e0 : numR (b :: r) i = none := num_nil (by rw [List.takeWhile_cons, if_neg hd])
    rw [e0]
    show _ = orR (txtR (b :: r) i) _
    by_cases hq : b = 34
    · subst hq
      rw [if_pos rfl]
      have e2 : wordR (34 :: r) i = none := by unfold wordR; rw [if_neg (by simp; decide)]
      have e4 : signR (34 :: r) i = none := rfl
      rw [e2, e35 34 (by decide), e4]
      unfold txtR
      rw [if_pos (show (34 :: r).head? = some 34 from rfl)]
      show (unqS r).map _ = orR ((unqS r).map _) none
      cases unqS r <;> rfl
    · rw [if_neg hq]
      have e1 : txtR (b :: r) i = none := by unfold txtR; rw [if_neg (by simpa using hq)]
      rw [e1]
      show _ = orR (wordR (b :: r) i) _
      by_cases hl : isLet b = true
      · rw [if_pos hl]
        have h35 : b ≠ 35 := by rintro rfl; revert hl; decide
        have e4 : signR (b :: r) i = none := by
          unfold signR
          have hb := (let_iff b).1 hl
          have k1 : b ≠ 60 := by rintro rfl; revert hb; decide
          have k2 : b ≠ 62 := by rintro rfl; revert hb; decide
          have k3 : op1 b = none := by
            unfold op1
            rw [show opTab.find? (fun x => x.1 == b) = none from ?_]
            · rfl
            · rw [List.find?_eq_none]
              intro x hx
              have hall : ∀ y ∈ opTab, ¬ ((65 ≤ y.1.toNat ∧ y.1.toNat ≤ 90) ∨ (97 ≤ y.1.toNat ∧ y.1.toNat ≤ 122)) := by decide
              have hx2 := hall x hx
              intro e
              rw [beq_iff_eq] at e
              rw [e] at hx2
              exact hx2 hb
          rw [op_cons, if_neg k1, if_neg k2, k3]
          rfl
        rw [e35 b h35, e4]
        unfold wordR
        rw [if_pos (by simpa using hl)]
        cases wordS (b :: r) i <;> rfl
      · rw [if_neg hl]
        have e2 : wordR (b :: r) i = none := by unfold wordR; rw [if_neg (by simpa using hl)]
        rw [e2]
        show _ = orR (errR (b :: r) i) (signR (b :: r) i)
        unfold errR
        cases errS (b :: r) with
        | none => rfl
        | some q => rfl
theorem info_tok : (Tryd.prog.info? 37).map (fun i => (i.zero, i.size, i.bytes)) = some (some (.agg #[.int .u8 0, .int .i64 0, .string ⟨#[]⟩, .int .i64 0, .int .i64 0, .int .i64 0, .int .i64 0, .int .i64 0]), 8, 72) := by kernel_rfl
end Go.Proofs.YtlngjiibbcgkmaaDoor
