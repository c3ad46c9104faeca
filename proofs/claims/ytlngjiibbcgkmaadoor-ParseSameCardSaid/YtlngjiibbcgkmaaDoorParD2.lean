/- The contract of tree.names and tree.Function. -/
import Derived.Test.YtlngjiibbcgkmaaDoorParD
namespace Go.Proofs.YtlngjiibbcgkmaaDoor
open Go.RowKit

def namesV : List Value := fnNames.map fun x => .string ⟨x.toArray⟩
theorem names_built : Tryd.prog.built 140 [(0, Value.string ⟨#[65, 66, 83]⟩), (1, Value.string ⟨#[83, 73, 71, 78]⟩), (2, Value.string ⟨#[73, 78, 84]⟩), (3, Value.string ⟨#[84, 82, 85, 78, 67]⟩), (4, Value.string ⟨#[82, 79, 85, 78, 68]⟩), (5, Value.string ⟨#[77, 79, 68]⟩), (6, Value.string ⟨#[80, 79, 87, 69, 82]⟩), (7, Value.string ⟨#[83, 81, 82, 84]⟩), (8, Value.string ⟨#[83, 85, 77]⟩), (9, Value.string ⟨#[80, 82, 79, 68, 85, 67, 84]⟩), (10, Value.string ⟨#[67, 79, 85, 78, 84]⟩), (11, Value.string ⟨#[67, 79, 85, 78, 84, 65]⟩), (12, Value.string ⟨#[67, 79, 85, 78, 84, 66, 76, 65, 78, 75]⟩), (13, Value.string ⟨#[65, 86, 69, 82, 65, 71, 69]⟩), (14, Value.string ⟨#[77, 73, 78]⟩), (15, Value.string ⟨#[77, 65, 88]⟩), (16, Value.string ⟨#[77, 69, 68, 73, 65, 78]⟩), (17, Value.string ⟨#[76, 65, 82, 71, 69]⟩), (18, Value.string ⟨#[83, 77, 65, 76, 76]⟩), (19, Value.string ⟨#[73, 70]⟩), (20, Value.string ⟨#[65, 78, 68]⟩), (21, Value.string ⟨#[79, 82]⟩), (22, Value.string ⟨#[88, 79, 82]⟩), (23, Value.string ⟨#[78, 79, 84]⟩), (24, Value.string ⟨#[73, 70, 69, 82, 82, 79, 82]⟩), (25, Value.string ⟨#[73, 83, 69, 82, 82, 79, 82]⟩), (26, Value.string ⟨#[73, 83, 66, 76, 65, 78, 75]⟩), (27, Value.string ⟨#[73, 83, 78, 85, 77, 66, 69, 82]⟩), (28, Value.string ⟨#[73, 83, 84, 69, 88, 84]⟩), (29, Value.string ⟨#[67, 72, 79, 79, 83, 69]⟩), (30, Value.string ⟨#[76, 69, 78]⟩), (31, Value.string ⟨#[76, 69, 70, 84]⟩), (32, Value.string ⟨#[82, 73, 71, 72, 84]⟩), (33, Value.string ⟨#[77, 73, 68]⟩), (34, Value.string ⟨#[85, 80, 80, 69, 82]⟩), (35, Value.string ⟨#[76, 79, 87, 69, 82]⟩), (36, Value.string ⟨#[84, 82, 73, 77]⟩), (37, Value.string ⟨#[67, 79, 78, 67, 65, 84]⟩), (38, Value.string ⟨#[82, 69, 80, 84]⟩), (39, Value.string ⟨#[69, 88, 65, 67, 84]⟩), (40, Value.string ⟨#[70, 73, 78, 68]⟩), (41, Value.string ⟨#[86, 65, 76, 85, 69]⟩), (42, Value.string ⟨#[73, 78, 68, 69, 88]⟩), (43, Value.string ⟨#[77, 65, 84, 67, 72]⟩), (44, Value.string ⟨#[67, 79, 85, 78, 84, 73, 70]⟩), (45, Value.string ⟨#[68, 83, 85, 77]⟩), (46, Value.string ⟨#[68, 67, 79, 85, 78, 84]⟩), (47, Value.string ⟨#[68, 65, 86, 71]⟩), (48, Value.string ⟨#[68, 77, 73, 78]⟩), (49, Value.string ⟨#[68, 77, 65, 88]⟩)] = some namesV.toArray := by kernel_rfl
theorem names_one : (namesV.toArray.all (·.oneCell')) = true := by kernel_rfl
def zerosV : Array Value := #[.string ⟨#[]⟩, .string ⟨#[]⟩, .string ⟨#[]⟩, .string ⟨#[]⟩, .string ⟨#[]⟩, .string ⟨#[]⟩, .string ⟨#[]⟩, .string ⟨#[]⟩, .string ⟨#[]⟩, .string ⟨#[]⟩, .string ⟨#[]⟩, .string ⟨#[]⟩, .string ⟨#[]⟩, .string ⟨#[]⟩, .string ⟨#[]⟩, .string ⟨#[]⟩, .string ⟨#[]⟩, .string ⟨#[]⟩, .string ⟨#[]⟩, .string ⟨#[]⟩, .string ⟨#[]⟩, .string ⟨#[]⟩, .string ⟨#[]⟩, .string ⟨#[]⟩, .string ⟨#[]⟩, .string ⟨#[]⟩, .string ⟨#[]⟩, .string ⟨#[]⟩, .string ⟨#[]⟩, .string ⟨#[]⟩, .string ⟨#[]⟩, .string ⟨#[]⟩, .string ⟨#[]⟩, .string ⟨#[]⟩, .string ⟨#[]⟩, .string ⟨#[]⟩, .string ⟨#[]⟩, .string ⟨#[]⟩, .string ⟨#[]⟩, .string ⟨#[]⟩, .string ⟨#[]⟩, .string ⟨#[]⟩, .string ⟨#[]⟩, .string ⟨#[]⟩, .string ⟨#[]⟩, .string ⟨#[]⟩, .string ⟨#[]⟩, .string ⟨#[]⟩, .string ⟨#[]⟩, .string ⟨#[]⟩]
theorem zeros_size : zerosV.size = namesV.toArray.size := by kernel_rfl
theorem names_info : (Tryd.prog.info? 140).map (·.size) = some namesV.toArray.size := by kernel_rfl
theorem row_set (w : World) (t : TypeId) (old V : Array Value) : ((w.alloc (.cells old t)).setRow w.heap.size V).heap[w.heap.size]? = some (.cells V t (0, 0)) := by
  exact setRow_heap (w.alloc (.cells old t)) w.heap.size old V t (0, 0) (heap_alloc_new w _)
theorem row_below (w : World) (t : TypeId) (old V : Array Value) : Below w.heap.size w ((w.alloc (.cells old t)).setRow w.heap.size V) :=
  ⟨rfl, rfl, rfl, by simp, fun i hi => by
    unfold World.setRow
    simp only [Array.getElem?_modify]
    rw [if_neg (by omega)]
    exact Below.heap_alloc w _ i hi⟩
theorem names_store (w : World) : ∃ W1, (storeVar 140 ⟨w.heap.size, 0, none⟩ (.agg namesV.toArray)).run Tryd.prog (w.alloc (.cells zerosV 140)) = .ok () W1 ∧ W1.heap[w.heap.size]? = some (.cells namesV.toArray 140 (0, 0)) ∧ Below w.heap.size w W1 :=
  ⟨_, run_storeVar_row (P := Tryd.prog) (w.alloc (.cells zerosV 140)) w.heap.size 140 140 zerosV namesV.toArray (heap_alloc_new _ _) names_info zeros_size names_one, row_set _ _ _ _, row_below _ _ _ _⟩
set_option maxRecDepth 100000 in
set_option maxHeartbeats 8000000 in
theorem tree_names (w : World) :
    Calls Tryd.prog 92 #[] w fun e w' => e = .returned (.agg namesV.toArray) ∧ Below w.heap.size w w' := by
  go_enter Tryd.func92, Tryd.ntmps92
  go_upto_region 1 with fail
  change Code.wp _ _ _ _ (w.alloc (.cells zerosV _))
  go_wp2_with (first | (refine wpList_build rfl _ _ rfl (by kernel_rfl) ?_) | (refine wpList_store_row rfl _ _ _ rfl w.heap.size namesV.toArray rfl (by kernel_rfl) 140 zerosV (heap_alloc_new _ _) names_info zeros_size names_one ?_))
  refine bodyPost_ret (v := .agg namesV.toArray) ?_ rfl ⟨rfl, row_below _ _ _ _⟩
  exact results_cell_row rfl _ _ w.heap.size 140 namesV.toArray (0, 0) _ rfl (row_set _ _ _ _) Tryd.underlying140 rfl names_info
theorem fn_idx (x : List UInt8) : idxS fnNames x = if fnS x = 0 then -1 else ((fnS x : Nat) : Int) - 1 := by
  unfold idxS fnS
  cases fnNames.findIdx? (· == x) with
  | none => rfl
  | some i => simp
theorem fn_le (x : List UInt8) : fnS x ≤ 50 := by
  unfold fnS
  split
  · rename_i i h
    rw [List.findIdx?_eq_some_iff_getElem] at h
    obtain ⟨h1, _⟩ := h
    have : fnNames.length = 50 := rfl
    omega
  · omega
/-- the error of Function -/
def fnE (x : List UInt8) : Int := if fnS x = 0 then 6 else 0
set_option maxRecDepth 100000 in
set_option maxHeartbeats 8000000 in
theorem tree_Function (x : List UInt8) (w : World) :
    Calls Tryd.prog 90 #[.string ⟨x.toArray⟩] w fun e w' => e = .returned (.tuple #[.int .u8 (fnS x : Nat), .int .i64 (fnE x)]) ∧ Below w.heap.size w w' := by
  have HX := keep (fn_idx x)
  have hle := fn_le x
  have HE := keep (show (fnS x = 0 → fnE x = 6) ∧ (fnS x ≠ 0 → fnE x = 0) from ⟨fun h => if_pos h, fun h => if_neg h⟩)
  go_enter Tryd.func90, Tryd.ntmps90
  go_wp2_with fail
  refine (tree_names _).mono ?_
  rintro e w1 ⟨rfl, hb1⟩
  have hrow := row_set w1 140 zerosV namesV.toArray
  have hbl := row_below w1 140 zerosV namesV.toArray
  obtain ⟨W1, hW1⟩ : ∃ W1, (w1.alloc (.cells zerosV 140)).setRow w1.heap.size namesV.toArray = W1 := ⟨_, rfl⟩
  rw [hW1] at hrow hbl
  have hcs : ∀ i (h : i < fnNames.length), W1.cell? ⟨w1.heap.size, i, none⟩ = some (.string ⟨fnNames[i].toArray⟩) := by
    intro i h
    rw [cell_of_row W1 w1.heap.size i _ _ _ hrow]
    unfold namesV
    simp [h]
  have HC := keep hcs
  have HB := Lib.hid (below_step hb1 hbl)
  clear hcs hrow hbl hb1
  have HW := Lib.hid hW1
  clear hW1
  go_wp2_with (refine wpList_store_row rfl _ _ _ rfl w1.heap.size namesV.toArray rfl rfl 140 zerosV (heap_alloc_new _ _) names_info zeros_size names_one ?_; change wpList _ _ _ _ _ ((w1.alloc (.cells zerosV 140)).setRow w1.heap.size namesV.toArray); rw [HW.out])
  refine (index_strs fnNames x w1.heap.size 50 W1 (by decide) HC.out).mono ?_
  rintro e w2 ⟨rfl, hw2⟩
  obtain rfl : W1 = w2 := hw2.symm
  rw [HX.out]
  by_cases h0 : fnS x = 0
  · rw [if_pos h0]
    have HF := keep (show fnS x = 0 ∧ fnE x = 6 from ⟨h0, HE.out.1 h0⟩)
    clear h0
    go_wp2_with fail
    exact bodyPost_ret (v := .tuple #[.int .u8 0, .int .i64 6]) (by simp [results, Tryd.results90, go_sem]) rfl ⟨by rw [HF.out.1, HF.out.2]; rfl, HB.out⟩
  · rw [if_neg h0]
    have HF := keep (HE.out.2 h0)
    obtain ⟨n, hn⟩ : ∃ n, fnS x = n := ⟨_, rfl⟩
    rw [hn] at h0 hle ⊢
    have h1 : ¬ (n : Int) - 1 < 0 := by omega
    have h2 : (n : Int) - 1 + 1 = n := by omega
    have h3 : (n : Int) % 256 = n := by omega
    have HN := keep hn
    clear hn
    go_wp2_with fail
    exact bodyPost_ret (v := .tuple #[.int .u8 (n : Int), .int .i64 0]) (by simp [results, Tryd.results90, go_sem]) rfl ⟨by rw [HF.out, HN.out], HB.out⟩
/-- what Wide hands back -/
def wideE (fn i : Nat) : Int := if (arS fn).2 ≤ i then 3 else 0
theorem tree_released (fn : Nat) (w : World) :
    Calls Tryd.prog 79 #[.int .u8 (fn : Nat)] w fun e w' => e = .returned (.bool (decide (46 ≤ fn ∧ fn ≤ 50))) ∧ w' = w := by
  by_cases h : 46 ≤ fn
  · have g1 : (46 : Int) ≤ fn := by omega
    go_enter Tryd.func79, Tryd.ntmps79
    go_wp2_with fail
    go_ret
    exact ⟨by show Ending.returned (Value.bool (decide ((fn : Int) ≤ 50))) = _; congr 2; rw [decide_eq_decide]; omega, rfl⟩
  · have g1 : ¬ (46 : Int) ≤ fn := by omega
    go_enter Tryd.func79, Tryd.ntmps79
    go_wp2_with fail
    go_ret
    exact ⟨by first | rfl | (rw [decide_eq_false (by omega)]; rfl), rfl⟩
theorem beq1 (x : Nat) : ((x : Int) == 1) = (x == 1) := by rw [Bool.eq_iff_iff]; simp; omega
theorem wide_no (fn i : Nat) (h : (arS fn).2 ≤ i) : wideS fn i = false ∧ wideE fn i = 3 := ⟨by unfold wideS; rw [if_pos h], if_pos h⟩
theorem wide_any (fn i : Nat) (h : ¬ (arS fn).2 ≤ i) (hf : fn = 9 ∨ fn = 10 ∨ fn = 11 ∨ fn = 12 ∨ fn = 14 ∨ fn = 15 ∨ fn = 16 ∨ fn = 17) : wideS fn i = true := by
  unfold wideS
  rw [if_neg h, if_pos (by simpa using hf)]
theorem wide_44 (fn i : Nat) (h : ¬ (arS fn).2 ≤ i) (hf : fn = 44) : wideS fn i = (i == 1) := by
  subst hf
  unfold wideS
  rw [if_neg h, if_neg (by decide), if_pos rfl]
theorem wide_one (fn i : Nat) (h : ¬ (arS fn).2 ≤ i) (hf : fn = 18 ∨ fn = 19 ∨ fn = 45 ∨ fn = 43 ∨ fn = 13) : wideS fn i = (i == 0) := by
  unfold wideS
  rw [if_neg h, if_neg (by simp; omega), if_neg (by omega), if_pos (by simpa using hf)]
theorem wide_else (fn i : Nat) (h : ¬ (arS fn).2 ≤ i) (hf : ¬ (fn = 9 ∨ fn = 10 ∨ fn = 11 ∨ fn = 12 ∨ fn = 14 ∨ fn = 15 ∨ fn = 16 ∨ fn = 17 ∨ fn = 44 ∨ fn = 18 ∨ fn = 19 ∨ fn = 45 ∨ fn = 43 ∨ fn = 13)) : wideS fn i = decide (46 ≤ fn ∧ fn ≤ 50) := by
  unfold wideS
  rw [if_neg h, if_neg (by simp; omega), if_neg (by omega), if_neg (by simp; omega)]
set_option maxRecDepth 100000 in
set_option maxHeartbeats 4000000 in
theorem tree_Wide (fn i : Nat) (w : World) (h1 : 1 ≤ fn) (h2 : fn ≤ 50) :
    Calls Tryd.prog 78 #[.int .u8 (fn : Nat), .int .i64 (i : Nat)] w fun e w' => e = .returned (.tuple #[.bool (wideS fn i), .int .i64 (wideE fn i)]) ∧ w' = w := by
  by_cases hm : (arS fn).2 ≤ i
  · have HM := keep (wide_no fn i hm)
    have hmi : (((arS fn).2 : Nat) : Int) ≤ (i : Int) := by omega
    clear hm
    go_enter Tryd.func78, Tryd.ntmps78
    go_wp2_with fail
    refine (tree_Arity fn _ h1 h2).mono ?_
    rintro e w' ⟨rfl, hw⟩
    obtain rfl : w = w' := hw.symm
    go_wp2_with fail
    exact bodyPost_ret (v := .tuple #[.bool false, .int .i64 3]) (by simp [results, Tryd.results78, go_sem]) rfl ⟨by rw [HM.out.1, HM.out.2], rfl⟩
  · have HE := keep (show wideE fn i = 0 from if_neg hm)
    have HM := keep hm
    have hmi : ¬ (((arS fn).2 : Nat) : Int) ≤ (i : Int) := by omega
    clear hm
    go_enter Tryd.func78, Tryd.ntmps78
    go_wp2_with fail
    refine (tree_Arity fn _ h1 h2).mono ?_
    rintro e w' ⟨rfl, hw⟩
    obtain rfl : w = w' := hw.symm
    go_wp2_with fail
    all_goals simp only [beq_iff_eq, beq_eq_false_iff_ne, ne_eq] at *
    all_goals
      first
      | exact bodyPost_ret (v := .tuple #[.bool true, .int .i64 0]) (by simp [results, Tryd.results78, go_sem]) rfl ⟨by rw [HE.out, wide_any fn i HM.out (by omega)], rfl⟩
      | exact bodyPost_ret (v := .tuple #[.bool ((i : Int) == 1), .int .i64 0]) (by simp [results, Tryd.results78, go_sem]) rfl ⟨by rw [HE.out, wide_44 fn i HM.out (by omega), beq1], rfl⟩
      | exact bodyPost_ret (v := .tuple #[.bool ((i : Int) == 0), .int .i64 0]) (by simp [results, Tryd.results78, go_sem]) rfl ⟨by rw [HE.out, wide_one fn i HM.out (by omega), beq0], rfl⟩
      | skip
    have HA := keep (wide_else fn i HM.out (by omega))
    refine (tree_released fn _).mono ?_
    rintro e w' ⟨rfl, hw⟩
    obtain rfl : w = w' := hw.symm
    rw [← HA.out]
    go_wp2_with fail
    exact bodyPost_ret (v := .tuple #[.bool (wideS fn i), .int .i64 0]) (by simp [results, Tryd.results78, go_sem]) rfl ⟨by rw [HE.out], rfl⟩
end Go.Proofs.YtlngjiibbcgkmaaDoor
