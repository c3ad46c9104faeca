/- The contract of addr.Valid. -/
import Derived.Test.YtjbimcdofenmdaaGreatDoorKit
namespace Go.Proofs.YtjbimcdofenmdaaGreatDoor
open Go.RowKit
def validN (c r : Int) : Bool:=decide (1 ≤ c ∧ c ≤ 1024 ∧ 1 ≤ r ∧ r ≤ 1024)
theorem validN_cases (c r : Int) (P : Prop) (h1 : ¬ 1 ≤ c → P) (h2 : 1 ≤ c → ¬ c ≤ 1024 → P) (h3 : 1 ≤ c → c ≤ 1024 → ¬ 1 ≤ r → P) (h4 : 1 ≤ c → c ≤ 1024 → 1 ≤ r → ¬ r ≤ 1024 → P) (h5 : 1 ≤ c → c ≤ 1024 → 1 ≤ r → r ≤ 1024 → P) : P:=by
  by_cases a : 1 ≤ c
  · by_cases b : c ≤ 1024
    · by_cases d : 1 ≤ r
      · by_cases e : r ≤ 1024
        · exact h5 a b d e
        · exact h4 a b d e
      · exact h3 a b d
    · exact h2 a b
  · exact h1 a
theorem addr_Valid (c r : Int) (w : World) :
    Calls Tryz.prog 98 #[.agg #[.int .i64 c,.int .i64 r]] w fun e w' => e = .returned (.bool (validN c r)) ∧ Below w.heap.size w w':=by
  apply validN_cases c r <;> intros
  all_goals
    go_enter Tryz.func98,Tryz.ntmps98
    go_wp2
    go_ret
    exact ⟨by simp only [Array.getD_eq_getD_getElem?]; simp [validN]; try omega,(Below.refl _ _).alloc (Nat.le_refl _) _⟩
end Go.Proofs.YtjbimcdofenmdaaGreatDoor
