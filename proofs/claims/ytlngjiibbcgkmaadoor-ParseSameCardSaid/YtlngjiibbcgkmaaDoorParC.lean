/- The contracts of parse.Binds and of the tree's tables. -/
import Derived.Test.YtlngjiibbcgkmaaDoorParA
import Derived.Laws.Strings3
namespace Go.Proofs.YtlngjiibbcgkmaaDoor
open Go.RowKit

theorem ar_22 (fn : Nat) (h : fn = 5 ∨ fn = 6 ∨ fn = 7 ∨ fn = 25 ∨ fn = 39 ∨ fn = 40 ∨ fn = 18 ∨ fn = 19 ∨ fn = 45 ∨ fn = 44) : arS fn = (2, 2) := by
  rcases h with rfl | rfl | rfl | rfl | rfl | rfl | rfl | rfl | rfl | rfl <;> decide
theorem ar_23 (fn : Nat) (h : fn = 20 ∨ fn = 41 ∨ fn = 43) : arS fn = (2, 3) := by rcases h with rfl | rfl | rfl <;> decide
theorem ar_12 (fn : Nat) (h : fn = 32 ∨ fn = 33) : arS fn = (1, 2) := by rcases h with rfl | rfl <;> decide
theorem ar_33 (fn : Nat) (h : fn = 34) : arS fn = (3, 3) := by subst h; decide
theorem ar_1m (fn : Nat) (h : fn = 21 ∨ fn = 22 ∨ fn = 23 ∨ fn = 38 ∨ fn = 9 ∨ fn = 10 ∨ fn = 11 ∨ fn = 12 ∨ fn = 14 ∨ fn = 15 ∨ fn = 16 ∨ fn = 17) : arS fn = (1, 16) := by
  rcases h with rfl | rfl | rfl | rfl | rfl | rfl | rfl | rfl | rfl | rfl | rfl | rfl <;> decide
theorem ar_2m (fn : Nat) (h : fn = 30) : arS fn = (2, 16) := by subst h; decide
theorem ar_11 (fn : Nat) (h : ¬ (fn = 5 ∨ fn = 6 ∨ fn = 7 ∨ fn = 25 ∨ fn = 39 ∨ fn = 40 ∨ fn = 18 ∨ fn = 19 ∨ fn = 45 ∨ fn = 44 ∨ fn = 20 ∨ fn = 41 ∨ fn = 43 ∨ fn = 32 ∨ fn = 33 ∨ fn = 34 ∨ fn = 21 ∨ fn = 22 ∨ fn = 23 ∨ fn = 38 ∨ fn = 9 ∨ fn = 10 ∨ fn = 11 ∨ fn = 12 ∨ fn = 14 ∨ fn = 15 ∨ fn = 16 ∨ fn = 17 ∨ fn = 30)) : arS fn = (1, 1) := by
  unfold arS
  simp only [List.mem_cons, List.not_mem_nil, or_false]
  rw [if_neg (by omega), if_neg (by omega), if_neg (by omega), if_neg (by omega), if_neg (by omega), if_neg (by omega)]
theorem tree_known (fn : Nat) (w : World) (h1 : 1 ≤ fn) (h2 : fn ≤ 50) :
    Calls Tryd.prog 84 #[.int .u8 (fn : Nat)] w fun e w' => e = .returned (.bool true) ∧ w' = w := by
  have g1 : (1 : Int) ≤ fn := by omega
  have g2 : (fn : Int) ≤ 50 := by omega
  go_enter Tryd.func84, Tryd.ntmps84
  go_wp2_with fail
  go_ret
  exact ⟨rfl, rfl⟩
set_option maxRecDepth 100000 in
set_option maxHeartbeats 4000000 in
theorem tree_Arity (fn : Nat) (w : World) (h1 : 1 ≤ fn) (h2 : fn ≤ 50) :
    Calls Tryd.prog 77 #[.int .u8 (fn : Nat)] w fun e w' => e = .returned (.tuple #[.int .i64 ((arS fn).1 : Nat), .int .i64 ((arS fn).2 : Nat), .int .i64 0]) ∧ w' = w := by
  go_enter Tryd.func77, Tryd.ntmps77
  go_wp2_with fail
  all_goals simp only [beq_iff_eq, beq_eq_false_iff_ne, ne_eq] at *
  all_goals
    first
    | exact bodyPost_ret (v := .tuple #[.int .i64 2, .int .i64 2, .int .i64 0]) (by simp [results, Tryd.results77, go_sem]) rfl ⟨by rw [ar_22 fn (by omega)]; rfl, rfl⟩
    | exact bodyPost_ret (v := .tuple #[.int .i64 2, .int .i64 3, .int .i64 0]) (by simp [results, Tryd.results77, go_sem]) rfl ⟨by rw [ar_23 fn (by omega)]; rfl, rfl⟩
    | exact bodyPost_ret (v := .tuple #[.int .i64 1, .int .i64 2, .int .i64 0]) (by simp [results, Tryd.results77, go_sem]) rfl ⟨by rw [ar_12 fn (by omega)]; rfl, rfl⟩
    | exact bodyPost_ret (v := .tuple #[.int .i64 3, .int .i64 3, .int .i64 0]) (by simp [results, Tryd.results77, go_sem]) rfl ⟨by rw [ar_33 fn (by omega)]; rfl, rfl⟩
    | exact bodyPost_ret (v := .tuple #[.int .i64 1, .int .i64 16, .int .i64 0]) (by simp [results, Tryd.results77, go_sem]) rfl ⟨by rw [ar_1m fn (by omega)]; rfl, rfl⟩
    | exact bodyPost_ret (v := .tuple #[.int .i64 2, .int .i64 16, .int .i64 0]) (by simp [results, Tryd.results77, go_sem]) rfl ⟨by rw [ar_2m fn (by omega)]; rfl, rfl⟩
    | skip
  have HA := keep (ar_11 fn (by omega))
  refine (tree_known fn _ h1 h2).mono ?_
  rintro e w' ⟨rfl, hw⟩
  obtain rfl : w = w' := hw.symm
  go_wp2_with fail
  exact bodyPost_ret (v := .tuple #[.int .i64 1, .int .i64 1, .int .i64 0]) (by simp [results, Tryd.results77, go_sem]) rfl ⟨by rw [HA.out]; rfl, rfl⟩
/-- the error of Binds; whether the operator binds to the right -/
def bindE (op : Int) : Int := if bindS op = 0 then 2 else 0
def isPow (op : Int) : Bool := decide (op = 5)
set_option maxRecDepth 100000 in
set_option maxHeartbeats 4000000 in
theorem parse_Binds (op : Int) (w : World) :
    Calls Tryd.prog 7 #[.int .i64 op] w fun e w' => e = .returned (.tuple #[.int .i64 (bindS op : Nat), .bool (isPow op), .int .i64 (bindE op)]) ∧ w' = w := by
  go_enter Tryd.func7, Tryd.ntmps7
  go_wp2_with fail
  all_goals simp only [beq_iff_eq, beq_eq_false_iff_ne, ne_eq] at *
  all_goals
    first
    | exact bodyPost_ret (v := .tuple #[.int .i64 1, .bool false, .int .i64 0]) (by simp [results, Tryd.results7, go_sem]) rfl ⟨by subst_vars; rfl, rfl⟩
    | exact bodyPost_ret (v := .tuple #[.int .i64 2, .bool false, .int .i64 0]) (by simp [results, Tryd.results7, go_sem]) rfl ⟨by subst_vars; rfl, rfl⟩
    | exact bodyPost_ret (v := .tuple #[.int .i64 3, .bool false, .int .i64 0]) (by simp [results, Tryd.results7, go_sem]) rfl ⟨by subst_vars; rfl, rfl⟩
    | exact bodyPost_ret (v := .tuple #[.int .i64 4, .bool false, .int .i64 0]) (by simp [results, Tryd.results7, go_sem]) rfl ⟨by subst_vars; rfl, rfl⟩
    | exact bodyPost_ret (v := .tuple #[.int .i64 6, .bool true, .int .i64 0]) (by simp [results, Tryd.results7, go_sem]) rfl ⟨by subst_vars; rfl, rfl⟩
    | exact bodyPost_ret (v := .tuple #[.int .i64 7, .bool false, .int .i64 0]) (by simp [results, Tryd.results7, go_sem]) rfl ⟨by subst_vars; rfl, rfl⟩
    | skip
  have hb : bindS op = 0 := by
    unfold bindS
    rw [if_neg (by omega), if_neg (by omega), if_neg (by omega), if_neg (by omega), if_neg (by omega), if_neg (by omega)]
  exact bodyPost_ret (v := .tuple #[.int .i64 0, .bool false, .int .i64 2]) (by simp [results, Tryd.results7, go_sem]) rfl ⟨by unfold isPow bindE; rw [hb, decide_eq_false (by omega)]; rfl, rfl⟩
end Go.Proofs.YtlngjiibbcgkmaaDoor
