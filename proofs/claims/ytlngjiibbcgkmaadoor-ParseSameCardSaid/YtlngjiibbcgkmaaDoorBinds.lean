/- ParseBinds: the walk. -/
import Derived.Test.YtlngjiibbcgkmaaDoorAwk9
import Derived.Test.YtlngjiibbcgkmaaDoorVal
namespace Go.Proofs.YtlngjiibbcgkmaaDoor
open Go.RowKit

set_option maxRecDepth 100000 in
set_option maxHeartbeats 4000000 in
theorem ref_Binds (op : Int) (w : World) :
    Calls Tryd.prog 8 #[.int .i64 op] w fun e w' => e = .returned (.tuple #[.int .i64 (bindS op : Nat), .bool (isPow op), .int .i64 (bindE op)]) ∧ w' = w := by
  go_enter Tryd.func8, Tryd.ntmps8
  go_wp2_with fail
  all_goals simp only [beq_iff_eq, beq_eq_false_iff_ne, ne_eq] at *
  all_goals
    first
    | exact bodyPost_ret (v := .tuple #[.int .i64 1, .bool false, .int .i64 0]) (by simp [results, Tryd.results8, go_sem]) rfl ⟨by subst_vars; rfl, rfl⟩
    | exact bodyPost_ret (v := .tuple #[.int .i64 2, .bool false, .int .i64 0]) (by simp [results, Tryd.results8, go_sem]) rfl ⟨by subst_vars; rfl, rfl⟩
    | exact bodyPost_ret (v := .tuple #[.int .i64 3, .bool false, .int .i64 0]) (by simp [results, Tryd.results8, go_sem]) rfl ⟨by subst_vars; rfl, rfl⟩
    | exact bodyPost_ret (v := .tuple #[.int .i64 4, .bool false, .int .i64 0]) (by simp [results, Tryd.results8, go_sem]) rfl ⟨by subst_vars; rfl, rfl⟩
    | exact bodyPost_ret (v := .tuple #[.int .i64 6, .bool true, .int .i64 0]) (by simp [results, Tryd.results8, go_sem]) rfl ⟨by subst_vars; rfl, rfl⟩
    | exact bodyPost_ret (v := .tuple #[.int .i64 7, .bool false, .int .i64 0]) (by simp [results, Tryd.results8, go_sem]) rfl ⟨by subst_vars; rfl, rfl⟩
    | skip
  have hb : bindS op = 0 := by
    unfold bindS
    rw [if_neg (by omega), if_neg (by omega), if_neg (by omega), if_neg (by omega), if_neg (by omega), if_neg (by omega)]
  exact bodyPost_ret (v := .tuple #[.int .i64 0, .bool false, .int .i64 2]) (by simp [results, Tryd.results8, go_sem]) rfl ⟨by unfold isPow bindE; rw [hb, decide_eq_false (by omega)]; rfl, rfl⟩
theorem ParseBinds_walk (op : Int) (w : World) (_ : (Lit.int .i64 op).wf = true) (hL : laidMetH Tryd.prog Rows.parseBindsRow.laid w) (hS : w.ShapedOpen Tryd.prog) :
    Calls Tryd.prog 3 #[.int .i64 op] w fun e w' => e = .returned (.bool true) ∧ Below w.heap.size w w' := by
  have HW := keep (words_of hL (by kernel_rfl) hS)
  clear hL hS
  have HB1 := keep (parse_Binds op w)
  have HB2 := keep (ref_Binds op w)
  obtain ⟨x, hx⟩ : ∃ x : Int, ((bindS op : Nat) : Int) = x := ⟨_, rfl⟩
  obtain ⟨y, hy⟩ : ∃ y, isPow op = y := ⟨_, rfl⟩
  obtain ⟨z, hz⟩ : ∃ z, bindE op = z := ⟨_, rfl⟩
  rw [hx, hy, hz] at HB1 HB2
  clear hx hy hz
  go_enter Tryd.func3, Tryd.ntmps3
  go_wp2_with fail
  refine HB1.out.mono ?_
  rintro e w1 ⟨rfl, hw⟩
  obtain rfl : w = w1 := hw.symm
  go_wp2_with fail
  refine HB2.out.mono ?_
  rintro e w1 ⟨rfl, hw⟩
  obtain rfl : w = w1 := hw.symm
  go_wp2_with fail
  refine (law_awake9 w HW.out).mono ?_
  rintro e w1 ⟨rfl, hb⟩
  have HB := Lib.hid hb
  clear hb
  go_wp2_with fail
  go_ret
  exact ⟨rfl, HB.out⟩
end Go.Proofs.YtlngjiibbcgkmaaDoor
