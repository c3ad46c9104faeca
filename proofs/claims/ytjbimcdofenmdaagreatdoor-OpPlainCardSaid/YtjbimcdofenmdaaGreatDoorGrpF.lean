/- The contract of group.Members: the bits of the set, ascending, in new memory. Condition: the library's table of TrailingZeros64. Plain helpers: a slice of integers among the facts that outlive every call. Contracts of group.Of and All, and of the reference's User, Bit, Has, Of, All, Meet. Condition: the cells of the slices hold numbers of their types. Plain: the canonical text of a set: its words, one run after another. -/
import Derived.Test.YtjbimcdofenmdaaGreatDoorMem
import Derived.Test.YtjbimcdofenmdaaGreatDoorOk
import Derived.OpenShut
namespace Go.Proofs.YtjbimcdofenmdaaGreatDoor
open Go.RowKit
attribute [local go_sem] Oper.semAt_some
section
variable {w W : World} {o : Nat} {pre : List Int}
end
end Go.Proofs.YtjbimcdofenmdaaGreatDoor
namespace Go.Proofs.YtjbimcdofenmdaaGreatDoor
open Go.RowKit
end Go.Proofs.YtjbimcdofenmdaaGreatDoor
namespace Go.Proofs.YtjbimcdofenmdaaGreatDoor
open Go.RowKit
theorem pow_lt (k : Nat) (h : k < 64) : 2 ^ k < 18446744073709551616:=Nat.pow_lt_pow_right (a:=2) (n:=64) (by omega) h
theorem or_lt {a b : Nat} (h : a < 18446744073709551616) (h2 : b < 18446744073709551616) : a ||| b < 18446744073709551616:=Nat.or_lt_two_pow (n:=64) h h2
theorem wrap_pow (k : Nat) (h : k < 64) : IntKind.u64.wrap ((2 : Int) ^ k) = ((2 ^ k : Nat) : Int):=by
  have hp:=pow_lt k h
  have e : (2 : Int) ^ k = ((2 ^ k : Nat) : Int):=by simp
  rw [e,IntKind.wrap_u64]
  generalize 2 ^ k = x at hp
  omega
theorem or_pow (t k : Nat) (ht : t < 18446744073709551616) (h : k < 64) : bits .or .u64 (t : Int) ((2 : Int) ^ k) = ((t ||| 2 ^ k : Nat) : Int):=by
  rw [show (2 : Int) ^ k = ((2 ^ k : Nat) : Int) from by simp]
  exact u64_or_nat t (2 ^ k) ht (pow_lt k h)
end Go.Proofs.YtjbimcdofenmdaaGreatDoor
namespace Go.Proofs.YtjbimcdofenmdaaGreatDoor
open Go.RowKit
def EndsRun (s u v : Nat) : Prop:=u ≤ v ∧ (∀ i,u < i → i ≤ v → s.testBit i = true) ∧ s.testBit (v + 1) = false
def lastF (s : Nat) : Nat → Nat → Nat
  | 0,u => u
  | n + 1,u => if s.testBit (u + 1) then lastF s n (u + 1) else u
def lastS (s u : Nat) : Nat:=lastF s (64 - u) u
theorem over_bit (s k : Nat) (hs : s < 18446744073709551616) (hk : 64 ≤ k) : s.testBit k = false:=Nat.testBit_lt_two_pow (Nat.lt_of_lt_of_le hs (show 2 ^ 64 ≤ 2 ^ k from Nat.pow_le_pow_right (by omega) hk))
theorem lastF_ends (s : Nat) (hs : s < 18446744073709551616) (n u : Nat) (h : 64 ≤ n + u) : EndsRun s u (lastF s n u):=by
  induction n generalizing u with
  | zero => exact ⟨Nat.le_refl _,fun i h1 h2 => by simp only [lastF] at h2; omega,over_bit s _ hs (by simp only [lastF]; omega)⟩
  | succ n ih =>
    rw [lastF]
    split
    · next hb =>
      obtain ⟨a,b,c⟩:=ih (u + 1) (by omega)
      refine ⟨by omega,fun i h1 h2 => ?_,c⟩
      rcases Nat.lt_or_ge (u + 1) i with h3 | h3
      · exact b i h3 h2
      · obtain rfl : i = u + 1:=by omega
        exact hb
    · next hb => exact ⟨Nat.le_refl _,fun i h1 h2 => by omega,by simpa using hb⟩
theorem ends_one (s u v v' : Nat) (h : EndsRun s u v) (h' : EndsRun s u v') : v = v':=by
  rcases Nat.lt_trichotomy v v' with c | c | c
  · have:=h'.2.1 (v + 1) (by have:=h.1; omega) (by omega)
    rw [h.2.2] at this; cases this
  · exact c
  · have:=h.2.1 (v' + 1) (by have:=h'.1; omega) (by omega)
    rw [h'.2.2] at this; cases this
theorem lastS_ends (s u : Nat) (hs : s < 18446744073709551616) : EndsRun s u (lastS s u):=lastF_ends s hs _ u (by omega)
theorem lastS_of (s u v : Nat) (hs : s < 18446744073709551616) (h : EndsRun s u v) : lastS s u = v:=ends_one s u _ _ (lastS_ends s u hs) h
theorem lastS_lt (s u : Nat) (hs : s < 18446744073709551616) (hu : u < 64) : lastS s u < 64:=by
  have h:=lastS_ends s u hs
  rcases Nat.lt_or_ge (lastS s u) 64 with c | c
  · exact c
  · have h1:=h.2.1 (lastS s u) (by omega) (Nat.le_refl _)
    rw [over_bit s _ hs c] at h1; cases h1
def dig2 (n : Nat) : List UInt8:=if n < 10 then [UInt8.ofNat (48 + n)] else [UInt8.ofNat (48 + n / 10),UInt8.ofNat (48 + n % 10)]
def wordF (u v : Nat) : List UInt8:=if v < u + 2 then dig2 u else dig2 u ++ 45 :: dig2 v
def wordsF (s : Nat) : Nat → Nat × List (List UInt8)
  | 0 => (0,[])
  | k + 1 =>
    if s.testBit k = true ∧ (wordsF s k).1 ≤ k then
      (if lastS s k < k + 2 then (wordsF s k).1 else lastS s k + 1,(wordsF s k).2 ++ [wordF k (lastS s k)])
    else wordsF s k
theorem wordsF_off (s k : Nat) (h : s.testBit k = false) : wordsF s (k + 1) = wordsF s k:=by rw [wordsF,if_neg (by simp [h])]
theorem wordsF_skip (s k : Nat) (h : k < (wordsF s k).1) : wordsF s (k + 1) = wordsF s k:=by rw [wordsF,if_neg (by omega)]
theorem wordsF_one (s k : Nat) (h : s.testBit k = true) (hn : (wordsF s k).1 ≤ k) (hl : lastS s k < k + 2) : wordsF s (k + 1) = ((wordsF s k).1,(wordsF s k).2 ++ [dig2 k]):=by
  rw [wordsF,if_pos ⟨h,hn⟩,if_pos hl,wordF,if_pos hl]
theorem wordsF_run (s k : Nat) (h : s.testBit k = true) (hn : (wordsF s k).1 ≤ k) (hl : ¬ lastS s k < k + 2) : wordsF s (k + 1) = (lastS s k + 1,(wordsF s k).2 ++ [dig2 k ++ 45 :: dig2 (lastS s k)]):=by
  rw [wordsF,if_pos ⟨h,hn⟩,if_neg hl,wordF,if_neg hl]
end Go.Proofs.YtjbimcdofenmdaaGreatDoor
