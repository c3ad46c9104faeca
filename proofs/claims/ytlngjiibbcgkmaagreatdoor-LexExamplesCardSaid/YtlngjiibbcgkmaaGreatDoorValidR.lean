/- The contract of the reference's Valid. -/
import Derived.Test.YtlngjiibbcgkmaaGreatDoorValid
namespace Go.Proofs.YtlngjiibbcgkmaaGreatDoor
open Go.RowKit

theorem ref_Valid (c r : Int) (w : World) :
    Calls Tryz.prog 159 #[.agg #[.int .i64 c, .int .i64 r]] w fun e w' => e = .returned (.bool (validN c r)) ∧ Below w.heap.size w w' := by
  apply validN_cases c r <;> intros
  all_goals
    go_enter Tryz.func159, Tryz.ntmps159
    go_wp2
    go_ret
    exact ⟨by simp only [Array.getD_eq_getD_getElem?]; simp [validN]; try omega, (Below.refl _ _).alloc (Nat.le_refl _) _⟩
end Go.Proofs.YtlngjiibbcgkmaaGreatDoor
