/- Contracts of louvre/group.Meet and louvre/group.Has: they return the bitwise meet and the bit that is asked for. Condition of Meet: the cells of the slice hold 64-bit numbers. -/
import Derived.Test.YtjjdlhbbkkkjnaaDoorKit
namespace Go.Proofs.YtjjdlhbbkkkjnaaDoor
open Go.RowKit

/-- the meet of the first k numbers of f -/
def meetF (f : Nat → Nat) : Nat → Nat
  | 0 => 18446744073709551615
  | k + 1 => meetF f k &&& f k
theorem meetF_succ (f : Nat → Nat) (k : Nat) : meetF f (k + 1) = meetF f k &&& f k := rfl
theorem meetF_lt (f : Nat → Nat) (k : Nat) : meetF f k < 18446744073709551616 := by
  induction k with
  | zero => show 18446744073709551615 < 18446744073709551616; decide
  | succ k ih => exact Nat.lt_of_le_of_lt Nat.and_le_left ih
def hasB (s : Nat) (u : Int) : Bool := decide (0 ≤ u ∧ u < 64) && s.testBit u.toNat

theorem has_word (s : Nat) (k : Nat) (hs : s < 18446744073709551616) : (bits BinOp.and IntKind.u64 ((s : Int) / 2 ^ k) 1 == 1) = s.testBit k := by
  have e : ((s : Int) / 2 ^ k) = ((s / 2 ^ k : Nat) : Int) := by simp
  have h := u64_and_nat (s / 2 ^ k) 1 (Nat.lt_of_le_of_lt (Nat.div_le_self _ _) hs) (by decide)
  rw [e, show (1 : Int) = ((1 : Nat) : Int) from rfl, h, nat_mask1, Nat.testBit_eq_decide_div_mod_eq]
  rw [Bool.eq_iff_iff]; simp; omega

theorem has_any (s : Int) (u : Int) (w : World) (h0 : 0 ≤ s) (h1 : s < 18446744073709551616) :
    Calls Tryd.prog 9 #[.int .u64 s, .int .i64 u] w fun e w' => e = .returned (.bool (hasB s.toNat u)) ∧ w = w' := by
  obtain ⟨s, rfl⟩ := Int.eq_ofNat_of_zero_le h0
  have hs : s < 18446744073709551616 := by omega
  rw [Int.toNat_natCast]
  by_cases a : 0 ≤ u
  · by_cases b : u < 64
    · go_enter Tryd.func9, Tryd.ntmps9
      go_wp2
      go_ret
      refine ⟨?_, rfl⟩
      simp only [Array.getD_eq_getD_getElem?]
      have := has_word s u.toNat hs
      simp [hasB, a, b, this]
    · go_enter Tryd.func9, Tryd.ntmps9
      go_wp2
      go_ret
      exact ⟨by simp [hasB]; intro; omega, rfl⟩
  · go_enter Tryd.func9, Tryd.ntmps9
    go_wp2
    go_ret
    exact ⟨by simp [hasB]; omega, rfl⟩

theorem meet_any (a : Option Addr) (n c : Nat) (f : Nat → Nat) (B : Nat) (w : World) (hn : n ≤ maxLen) (hr : IsNums .u64 w B a n f) (hz : ∀ i, f i < 18446744073709551616) :
    Calls Tryd.prog 15 #[.slice a n c] w fun e w' => e = .returned (.int .u64 (meetF f n : Nat)) ∧ w = w' := by
  unfold maxLen at hn
  go_enter Tryd.func15, Tryd.ntmps15
  go_wp2
  go_loop [3, 8] (fun s i => ∃ k : Nat, k ≤ n ∧ i = .int .i64 k ∧ s = .int .u64 (meetF f k : Nat)) (fun _ i => n - (intOf i).toNat)
  case atStart => exact ⟨0, Nat.zero_le _, rfl, rfl⟩
  case round =>
    obtain ⟨k, hk, rfl, rfl⟩ := hrel
    by_cases hlt : k < n
    · obtain ⟨ad, rfl, _, hc⟩ := hr (by omega)
      have hck := hc k hlt
      clear hc
      go_wp2
      go_round
      case rel =>
        refine ⟨k + 1, by omega, by go_num, ?_⟩
        rw [u64_and_nat _ _ (meetF_lt f k) (hz k)]; rfl
      case measure => simp [intOf]; omega
    · go_wp2
      go_ret
      have : k = n := by omega
      subst this
      exact ⟨rfl, rfl⟩
end Go.Proofs.YtjjdlhbbkkkjnaaDoor
