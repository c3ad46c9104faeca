/- The contract of addr.Valid. One byte made a string: string([]byte{b}). Plain: what strings.Cut at a colon returns, by the place of the first colon. Contracts of louvre/group.Meet and louvre/group.Has: they return the bitwise meet and the bit that is asked for. Condition of Meet: the cells of the slice hold 64-bit numbers. -/
import Derived.Test.YtmalncmdfmoccaaGreatDoorBKit
import Derived.Lib.IndexMore
namespace Go.Proofs.YtmalncmdfmoccaaGreatDoor
open Go.RowKit
def validN (c r : Int) : Bool:=decide (1 ≤ c ∧ c ≤ 1024 ∧ 1 ≤ r ∧ r ≤ 1024)
theorem validN_cases (c r : Int) (P : Prop) (h1 : ¬ 1 ≤ c → P) (h2 : 1 ≤ c → ¬ c ≤ 1024 → P) (h3 : 1 ≤ c → c ≤ 1024 → ¬ 1 ≤ r → P) (h4 : 1 ≤ c → c ≤ 1024 → 1 ≤ r → ¬ r ≤ 1024 → P) (h5 : 1 ≤ c → c ≤ 1024 → 1 ≤ r → r ≤ 1024 → P) : P:=by
  by_cases a : 1 ≤ c
  · by_cases b : c ≤ 1024
    · by_cases d : 1 ≤ r
      · by_cases e : r ≤ 1024
        · exact h5 a b d e
        · exact h4 a b d e
      · exact h3 a b d
    · exact h2 a b
  · exact h1 a
theorem addr_Valid (c r : Int) (w : World) :
    Calls Tryz.prog 178 #[.agg #[.int .i64 c,.int .i64 r]] w fun e w' => e = .returned (.bool (validN c r)) ∧ Below w.heap.size w w':=by
  apply validN_cases c r <;> intros
  all_goals
    go_enter Tryz.func178,Tryz.ntmps178
    go_wp2
    go_ret
    exact ⟨by simp only [Array.getD_eq_getD_getElem?]; simp [validN]; try omega,(Below.refl _ _).alloc (Nat.le_refl _) _⟩
end Go.Proofs.YtmalncmdfmoccaaGreatDoor
namespace Go.Proofs.YtmalncmdfmoccaaGreatDoor
open Go.RowKit
end Go.Proofs.YtmalncmdfmoccaaGreatDoor
namespace Go.Proofs.YtmalncmdfmoccaaGreatDoor
theorem index_colon (l : List UInt8) (k : Nat) (hk : k < l.length) (h : ∀ j (hj : j < k),l[j]'(by omega) ≠ 58) (h2 : l[k] = 58) : Lib.index l [58] = (k : Int):=by
  induction l generalizing k with
  | nil => simp at hk
  | cons b l ih =>
    match k with
    | 0 =>
      have : b = 58:=by simpa using h2
      subst this
      simp [Lib.index]
    | k + 1 =>
      have hb : b ≠ 58:=by simpa using h 0 (by omega)
      have hi:=ih k (by simpa using hk) (fun j hj => by simpa using h (j + 1) (by omega)) (by simpa using h2)
      have hp : ([58] : List UInt8).isPrefixOf (b :: l) = false:=by simp [List.isPrefixOf]; exact fun e => hb e.symm
      rw [Lib.index,hp,hi]
      have : ((k : Int) == -1) = false:=by rw [beq_eq_false_iff_ne]; omega
      simp [this]
theorem index_none (l : List UInt8) (h : ∀ j (hj : j < l.length),l[j] ≠ 58) : Lib.index l [58] = -1:=by
  induction l with
  | nil => simp [Lib.index]
  | cons b l ih =>
    have hb : b ≠ 58:=h 0 (by simp)
    have hi:=ih (fun j hj => h (j + 1) (by simpa using hj))
    have hp : ([58] : List UInt8).isPrefixOf (b :: l) = false:=by simp [List.isPrefixOf]; exact fun e => hb e.symm
    rw [Lib.index,hp,hi]
    simp
theorem cut_colon (l : List UInt8) (k : Nat) (hk : k < l.length) (h : ∀ j (hj : j < k),l[j]'(by omega) ≠ 58) (h2 : l[k] = 58) : Lib.cut l [58] = (l.take k,l.drop (k + 1),true):=by
  unfold Lib.cut
  rw [index_colon l k hk h h2,if_pos (by omega)]
  simp
theorem cut_none (l : List UInt8) (h : ∀ j (hj : j < l.length),l[j] ≠ 58) : Lib.cut l [58] = (l,[],false):=by
  unfold Lib.cut
  rw [index_none l h,if_neg (by omega)]
end Go.Proofs.YtmalncmdfmoccaaGreatDoor
namespace Go.Proofs.YtmalncmdfmoccaaGreatDoor
open Go.RowKit
def hasB (s : Nat) (u : Int) : Bool:=decide (0 ≤ u ∧ u < 64) && s.testBit u.toNat
theorem has_word (s : Nat) (k : Nat) (hs : s < 18446744073709551616) : (bits BinOp.and IntKind.u64 ((s : Int) / 2 ^ k) 1 == 1) = s.testBit k:=by
  have e : ((s : Int) / 2 ^ k) = ((s / 2 ^ k : Nat) : Int):=by simp
  have h:=u64_and_nat (s / 2 ^ k) 1 (Nat.lt_of_le_of_lt (Nat.div_le_self _ _) hs) (by decide)
  rw [e,show (1 : Int) = ((1 : Nat) : Int) from rfl,h,nat_mask1,Nat.testBit_eq_decide_div_mod_eq]
  rw [Bool.eq_iff_iff]; simp; omega
theorem has_any (s : Int) (u : Int) (w : World) (h0 : 0 ≤ s) (h1 : s < 18446744073709551616) :
    Calls Tryz.prog 104 #[.int .u64 s,.int .i64 u] w fun e w' => e = .returned (.bool (hasB s.toNat u)) ∧ w = w':=by
  obtain ⟨s,rfl⟩:=Int.eq_ofNat_of_zero_le h0
  have hs : s < 18446744073709551616:=by omega
  rw [Int.toNat_natCast]
  by_cases a : 0 ≤ u
  · by_cases b : u < 64
    · go_enter Tryz.func104,Tryz.ntmps104
      go_wp2
      go_ret
      refine ⟨?_,rfl⟩
      simp only [Array.getD_eq_getD_getElem?]
      have:=has_word s u.toNat hs
      simp [hasB,a,b,this]
    · go_enter Tryz.func104,Tryz.ntmps104
      go_wp2
      go_ret
      exact ⟨by simp [hasB]; intro; omega,rfl⟩
  · go_enter Tryz.func104,Tryz.ntmps104
    go_wp2
    go_ret
    exact ⟨by simp [hasB]; omega,rfl⟩
end Go.Proofs.YtmalncmdfmoccaaGreatDoor
