/- LexExamples: the walk. -/
import Derived.Test.YtlngjiibbcgkmaaGreatDoorLexW
namespace Go.Proofs.YtlngjiibbcgkmaaGreatDoor
open Go.RowKit

def isStr : Value → Bool
  | .string s => decide (s.size ≤ 30)
  | _ => false
theorem str_at {w : World} {g : Nat} {cs : List Value} {n : Nat} (h : Blk w g 9 cs.toArray) (hc : cs.all isStr = true) (hn : cs.length = n) (i : Nat) (hi : i < n) :
    ∃ s : ByteArray, s.size ≤ 30 ∧ w.cell? ⟨g, i, none⟩ = some (.string s) := by
  have h1 := h.cell i
  have h2 : cs[i]? = some (cs[i]'(by omega)) := List.getElem?_eq_getElem _
  have h3 := List.all_eq_true.1 hc (cs[i]'(by omega)) (List.getElem_mem _)
  rw [List.getElem?_toArray, h2] at h1
  cases h4 : cs[i]'(by omega) with
  | string s =>
    rw [h4] at h1 h3
    exact ⟨s, of_decide_eq_true h3, h1⟩
  | _ => rw [h4] at h3; cases h3
theorem conv_take {w : World} {base g n c : Nat} {l : List UInt8} (h : w.ownsRow base 5 1 (.slice (some ⟨g, 0, none⟩) 301 301) 301 (bytesV l)) (hl : l.length = 301) (hn : n ≤ 301) :
    (convert 49 9 (.slice (some ⟨g, 0, none⟩) n c)).run Tryz.prog w = .ok (.string ⟨(l.take n).toArray⟩) w := by
  have hc := @World.ownsRow.cells _ _ _ _ _ _ _ h
  have h9 := run_convert_bytes_back w 49 9 5 ⟨g, 0, none⟩ c (l.take n) Tryz.underlying49 Tryz.underlying5 Tryz.underlying9 (fun j hj => by
    rw [List.length_take] at hj
    rw [List.getElem_take]
    exact hc rfl j _ (by simp [bytesV]; exact ⟨_, List.getElem?_eq_getElem (by omega), rfl⟩))
  rw [List.length_take, Nat.min_eq_left (by omega)] at h9
  exact h9
theorem row_kept {w w' : World} {base g : Nat} {l : List UInt8} (h : w.ownsRow base 5 1 (.slice (some ⟨g, 0, none⟩) 301 301) 301 (bytesV l)) (hb : Below w.heap.size w w') : w'.ownsRow base 5 1 (.slice (some ⟨g, 0, none⟩) 301 301) 301 (bytesV l) :=
  h.kept (only_of_below hb none) (.inr (by simp [Value.ownBlock]))
theorem made_bytes : (madeCells (Value.int .u8 0).cells (301 * 1)).toList = bytesV (List.replicate 301 0) := by kernel_rfl
theorem bytesV_set (l : List UInt8) (j : Nat) : (bytesV l).set j (.int .u8 49) = bytesV (l.set j 49) := by
  unfold bytesV
  rw [List.map_set]
  rfl
theorem idx4 (w : World) (r0 r1 r2 r3 r4 r5 r6 r7 r8 r9 s0 s1 s2 s3 s4 s5 : Value) :
    (Instr.index 50 (.agg #[r0, r1, r2, r3, r4, r5, r6, r7, r8, r9, s0, s1, s2, s3, s4, s5]) (.int .i64 0)).run Tryz.prog w = .ok (.agg #[r0, r1, r2, r3]) w ∧
    (Instr.index 50 (.agg #[r0, r1, r2, r3, r4, r5, r6, r7, r8, r9, s0, s1, s2, s3, s4, s5]) (.int .i64 1)).run Tryz.prog w = .ok (.agg #[r4, r5, r6, r7]) w ∧
    (Instr.index 50 (.agg #[r0, r1, r2, r3, r4, r5, r6, r7, r8, r9, s0, s1, s2, s3, s4, s5]) (.int .i64 2)).run Tryz.prog w = .ok (.agg #[r8, r9, s0, s1]) w ∧
    (Instr.index 50 (.agg #[r0, r1, r2, r3, r4, r5, r6, r7, r8, r9, s0, s1, s2, s3, s4, s5]) (.int .i64 3)).run Tryz.prog w = .ok (.agg #[s2, s3, s4, s5]) w := by
  refine ⟨?_, ?_, ?_, ?_⟩ <;> kernel_rfl
/-- a literal slice of tokens -/
theorem tks_lit (ts : List (Tk × Int)) (w : World) (hn : ts.length ≤ maxLen) : TksAt (w.alloc (.cells (cellsI ts).toArray 43)) (some ⟨w.heap.size, 0, none⟩) ts.length ts := by
  obtain ⟨a, c, hv, h⟩ := tks_ownI (World.ownsRow_lit (base := w.heap.size) (e := 43) (size := 8) w (cellsI ts).toArray ts.length (Nat.le_refl _) hn (by rw [List.size_toArray]; exact cellsI_len ts))
  injection hv with h1 h2 h3
  subst h1
  subst h3
  exact h
set_option maxRecDepth 100000 in
set_option maxHeartbeats 16000000 in
theorem law_LexExamples (w : World) (he : WEnv w) :
    Calls Tryz.prog 7 #[] w fun e w' => e = .returned (.bool true) ∧ Below w.heap.size w w' := by
  have HE := keep he
  clear he
  have H0 := Lib.hid (Ok.start w)
  go_enter Tryz.func7, Tryz.ntmps7
  go_upto_region 2 with fail
  have H1 := Lib.hid (H0.out.alloc w.heap.size 9 [.string ⟨#[]⟩, .string ⟨#[32]⟩, .string ⟨#[115, 117, 109, 40, 65, 49, 58, 98, 50, 44, 49, 46, 53, 48, 41]⟩, .string ⟨#[32, 32, 97, 49, 32, 60, 62, 84, 82, 85, 69]⟩, .string ⟨#[34, 120, 34, 34, 121, 34]⟩, .string ⟨#[34, 120]⟩, .string ⟨#[49, 46, 50, 51, 52, 53, 54]⟩, .string ⟨#[49, 46, 50, 51, 52, 53]⟩, .string ⟨#[49, 46]⟩, .string ⟨#[46, 53]⟩, .string ⟨#[65, 48, 49]⟩, .string ⟨#[65, 77, 74, 49, 48, 50, 52]⟩, .string ⟨#[65, 77, 74, 49, 48, 50, 53]⟩, .string ⟨#[65, 77, 75, 49]⟩, .string ⟨#[66, 50, 58, 65, 49]⟩, .string ⟨#[65, 49, 58, 65, 49]⟩, .string ⟨#[65, 49, 58]⟩, .string ⟨#[65, 49, 58, 66]⟩, .string ⟨#[65, 49, 58, 32, 66, 50]⟩, .string ⟨#[65, 49, 58, 66, 50, 40]⟩, .string ⟨#[65, 49, 58, 84, 82, 85, 69]⟩, .string ⟨#[65, 49, 40]⟩, .string ⟨#[35, 78, 47, 65, 35, 68, 69, 78, 73, 69, 68]⟩, .string ⟨#[35, 110, 47, 97]⟩, .string ⟨#[35]⟩, .string ⟨#[35, 67, 89, 67, 76, 69, 33]⟩, .string ⟨#[35, 82, 69, 70, 33]⟩, .string ⟨#[57, 50, 50, 51, 51, 55, 50, 48, 51, 54, 56, 53, 52, 55, 55, 46, 53, 56, 48, 55]⟩, .string ⟨#[57, 50, 50, 51, 51, 55, 50, 48, 51, 54, 56, 53, 52, 55, 55, 46, 53, 56, 48, 56]⟩, .string ⟨#[48, 48, 48, 48, 55]⟩, .string ⟨#[49, 65]⟩, .string ⟨#[65]⟩, .string ⟨#[84, 82, 85, 69]⟩, .string ⟨#[116, 114, 117, 101, 49]⟩, .string ⟨#[70, 65, 76, 83, 69, 40]⟩, .string ⟨#[120, 32, 121]⟩, .string ⟨#[34, 34]⟩, .string ⟨#[34, 34, 34, 34]⟩, .string ⟨#[34, 34, 34]⟩, .string ⟨#[60, 62, 61, 60, 61]⟩, .string ⟨#[97, 49, 58, 98, 50, 58, 99, 51]⟩] rfl)
  clear H0
  have HS := keep (show ([.string ⟨#[]⟩, .string ⟨#[32]⟩, .string ⟨#[115, 117, 109, 40, 65, 49, 58, 98, 50, 44, 49, 46, 53, 48, 41]⟩, .string ⟨#[32, 32, 97, 49, 32, 60, 62, 84, 82, 85, 69]⟩, .string ⟨#[34, 120, 34, 34, 121, 34]⟩, .string ⟨#[34, 120]⟩, .string ⟨#[49, 46, 50, 51, 52, 53, 54]⟩, .string ⟨#[49, 46, 50, 51, 52, 53]⟩, .string ⟨#[49, 46]⟩, .string ⟨#[46, 53]⟩, .string ⟨#[65, 48, 49]⟩, .string ⟨#[65, 77, 74, 49, 48, 50, 52]⟩, .string ⟨#[65, 77, 74, 49, 48, 50, 53]⟩, .string ⟨#[65, 77, 75, 49]⟩, .string ⟨#[66, 50, 58, 65, 49]⟩, .string ⟨#[65, 49, 58, 65, 49]⟩, .string ⟨#[65, 49, 58]⟩, .string ⟨#[65, 49, 58, 66]⟩, .string ⟨#[65, 49, 58, 32, 66, 50]⟩, .string ⟨#[65, 49, 58, 66, 50, 40]⟩, .string ⟨#[65, 49, 58, 84, 82, 85, 69]⟩, .string ⟨#[65, 49, 40]⟩, .string ⟨#[35, 78, 47, 65, 35, 68, 69, 78, 73, 69, 68]⟩, .string ⟨#[35, 110, 47, 97]⟩, .string ⟨#[35]⟩, .string ⟨#[35, 67, 89, 67, 76, 69, 33]⟩, .string ⟨#[35, 82, 69, 70, 33]⟩, .string ⟨#[57, 50, 50, 51, 51, 55, 50, 48, 51, 54, 56, 53, 52, 55, 55, 46, 53, 56, 48, 55]⟩, .string ⟨#[57, 50, 50, 51, 51, 55, 50, 48, 51, 54, 56, 53, 52, 55, 55, 46, 53, 56, 48, 56]⟩, .string ⟨#[48, 48, 48, 48, 55]⟩, .string ⟨#[49, 65]⟩, .string ⟨#[65]⟩, .string ⟨#[84, 82, 85, 69]⟩, .string ⟨#[116, 114, 117, 101, 49]⟩, .string ⟨#[70, 65, 76, 83, 69, 40]⟩, .string ⟨#[120, 32, 121]⟩, .string ⟨#[34, 34]⟩, .string ⟨#[34, 34, 34, 34]⟩, .string ⟨#[34, 34, 34]⟩, .string ⟨#[60, 62, 61, 60, 61]⟩, .string ⟨#[97, 49, 58, 98, 50, 58, 99, 51]⟩] : List Value).all isStr = true by decide)
  generalize hall : ([.string ⟨#[]⟩, .string ⟨#[32]⟩, .string ⟨#[115, 117, 109, 40, 65, 49, 58, 98, 50, 44, 49, 46, 53, 48, 41]⟩, .string ⟨#[32, 32, 97, 49, 32, 60, 62, 84, 82, 85, 69]⟩, .string ⟨#[34, 120, 34, 34, 121, 34]⟩, .string ⟨#[34, 120]⟩, .string ⟨#[49, 46, 50, 51, 52, 53, 54]⟩, .string ⟨#[49, 46, 50, 51, 52, 53]⟩, .string ⟨#[49, 46]⟩, .string ⟨#[46, 53]⟩, .string ⟨#[65, 48, 49]⟩, .string ⟨#[65, 77, 74, 49, 48, 50, 52]⟩, .string ⟨#[65, 77, 74, 49, 48, 50, 53]⟩, .string ⟨#[65, 77, 75, 49]⟩, .string ⟨#[66, 50, 58, 65, 49]⟩, .string ⟨#[65, 49, 58, 65, 49]⟩, .string ⟨#[65, 49, 58]⟩, .string ⟨#[65, 49, 58, 66]⟩, .string ⟨#[65, 49, 58, 32, 66, 50]⟩, .string ⟨#[65, 49, 58, 66, 50, 40]⟩, .string ⟨#[65, 49, 58, 84, 82, 85, 69]⟩, .string ⟨#[65, 49, 40]⟩, .string ⟨#[35, 78, 47, 65, 35, 68, 69, 78, 73, 69, 68]⟩, .string ⟨#[35, 110, 47, 97]⟩, .string ⟨#[35]⟩, .string ⟨#[35, 67, 89, 67, 76, 69, 33]⟩, .string ⟨#[35, 82, 69, 70, 33]⟩, .string ⟨#[57, 50, 50, 51, 51, 55, 50, 48, 51, 54, 56, 53, 52, 55, 55, 46, 53, 56, 48, 55]⟩, .string ⟨#[57, 50, 50, 51, 51, 55, 50, 48, 51, 54, 56, 53, 52, 55, 55, 46, 53, 56, 48, 56]⟩, .string ⟨#[48, 48, 48, 48, 55]⟩, .string ⟨#[49, 65]⟩, .string ⟨#[65]⟩, .string ⟨#[84, 82, 85, 69]⟩, .string ⟨#[116, 114, 117, 101, 49]⟩, .string ⟨#[70, 65, 76, 83, 69, 40]⟩, .string ⟨#[120, 32, 121]⟩, .string ⟨#[34, 34]⟩, .string ⟨#[34, 34, 34, 34]⟩, .string ⟨#[34, 34, 34]⟩, .string ⟨#[60, 62, 61, 60, 61]⟩, .string ⟨#[97, 49, 58, 98, 50, 58, 99, 51]⟩] : List Value) = AS at H1 HS
  have HAL := keep (show AS.length = 41 by rw [← hall]; rfl)
  clear hall
  generalize (w.alloc (.cells AS.toArray 9)) = W1 at H1 ⊢
  go_wp2_with fail
  go_loopw [2] (fun iv wr => ∃ i : Nat, i ≤ 41 ∧ iv = .int .i64 (i : Int) ∧ Hid (Ok w [kBlk w.heap.size 9 AS] wr)) (fun iv _ => 41 - (intOf iv).toNat)
  case atStart => exact ⟨0, Nat.zero_le _, rfl, H1⟩
  case round =>
    clear H1
    obtain ⟨i, hi, rfl, HR⟩ := hrel
    obtain ⟨wp, rfl⟩ : ∃ wp : World, wp = wr := ⟨_, rfl⟩
    have hblk : Blk wp w.heap.size 9 AS.toArray := HR.out.get (kBlk w.heap.size 9 AS) (by simp)
    by_cases hlt : (i : Int) < 41
    · obtain ⟨j, hj⟩ : ∃ j, (i + 1) % 41 = j := ⟨_, rfl⟩
      have hj41 : j < 41 := by omega
      have hjm : ((i : Int) + 1).tmod 41 = (j : Int) := by rw [Int.tmod_eq_emod_of_nonneg (by omega)]; omega
      obtain ⟨s1, hs1, c1⟩ := str_at hblk HS.out HAL.out i (by omega)
      obtain ⟨s2, hs2, c2⟩ := str_at hblk HS.out HAL.out j hj41
      have hlt9 := World.block_lt_of_cell? wp _ c1
      have H2 := Lib.hid ((HR.out.add (kCells w.heap.size i [.string s1]) ⟨hlt9, c1, trivial⟩).add (kCells w.heap.size j [.string s2]) ⟨hlt9, c2, trivial⟩)
      have hw9 : IntKind.i64.wrap ((i : Int) + 1) = (i : Int) + 1 := Go.IntWalk.i64_in _ (by omega)
      have hj0 : (0 : Int) ≤ (j : Int) := by omega
      have hj1 : (j : Int) < 41 := by omega
      have hcat : s1.size + s2.size ≤ 60 := by omega
      clear hblk c1 c2 hj
      go_upto_region 5 with fail
      refine wp_region_held_drew (S := fun W => Ok w [kCells w.heap.size j [.string s2], kCells w.heap.size i [.string s1], kBlk w.heap.size 9 AS] W) (by kernel_rfl) H2.out.drew (fun hHeld => ?_)
      refine wpAnyH_take (i := 0) (v := ?vx1_0) rfl (by kernel_rfl) (by kernel_rfl) (by kernel_rfl) (fun _ _ _ h => h) (Or.inl ⟨by rfl, ?hyx1_0⟩) (by assumption) ?restx1_0
      case hyx1_0 => (intro w hSw; have F := Ok.sees hSw; clear hSw; simp only [sees, kCells, kBlk, cellsFrom, Nat.add_zero] at F; go_simp; (try rw [if_neg (by omega)]); try with_reducible rfl)
      try simp only [Act.put, List.setIfInBounds_toArray, List.set_cons_zero, List.set_cons_succ, List.getElem_toArray, List.getElem_cons_zero]
      refine wpAnyH_take (i := 1) (v := ?vx2_1) rfl (by kernel_rfl) (by kernel_rfl) (by kernel_rfl) (fun _ _ _ h => h) (Or.inl ⟨by rfl, ?hyx2_1⟩) (by assumption) ?restx2_1
      case hyx2_1 => (intro w hSw; have F := Ok.sees hSw; clear hSw; simp only [sees, kCells, kBlk, cellsFrom, Nat.add_zero] at F; go_simp; (try rw [if_neg (by omega)]); try with_reducible rfl)
      try simp only [Act.put, List.setIfInBounds_toArray, List.set_cons_zero, List.set_cons_succ, List.getElem_toArray, List.getElem_cons_succ, List.getElem_cons_zero]
      refine wpAnyH_take (i := 2) (v := ?vx3_2) rfl (by kernel_rfl) (by kernel_rfl) (by kernel_rfl) (fun _ _ _ h => h) (Or.inl ⟨by rfl, ?hyx3_2⟩) (by assumption) ?restx3_2
      case hyx3_2 => (intro w hSw; have F := Ok.sees hSw; clear hSw; simp only [sees, kCells, kBlk, cellsFrom, Nat.add_zero] at F; go_simp; (try rw [if_neg (by omega)]); try with_reducible rfl)
      try simp only [Act.put, List.setIfInBounds_toArray, List.set_cons_zero, List.set_cons_succ, List.getElem_toArray, List.getElem_cons_succ, List.getElem_cons_zero]
      refine wpAnyH_take (i := 3) (v := ?vx4_3) rfl (by kernel_rfl) (by kernel_rfl) (by kernel_rfl) (fun _ _ _ h => h) (Or.inl ⟨by rfl, ?hyx4_3⟩) (by assumption) ?restx4_3
      case hyx4_3 => (intro w hSw; have F := Ok.sees hSw; clear hSw; simp only [sees, kCells, kBlk, cellsFrom, Nat.add_zero] at F; go_simp; (try rw [if_neg (by omega)]); try with_reducible rfl)
      try simp only [Act.put, List.setIfInBounds_toArray, List.set_cons_zero, List.set_cons_succ, List.getElem_toArray, List.getElem_cons_succ, List.getElem_cons_zero]
      refine wpAnyH_ready (rs := [4]) (by kernel_rfl) (by simp) ?_
      refine AllReadyH.cons rfl (fun K hK => ?_) AllReadyH.nil
      go_simp
      refine (law_LexTokens s1 _ (HE.out.below hHeld.bel)).mono ?_
      rintro e w2 ⟨rfl, hb3⟩
      go_wp2_with fail
      refine hK.out _ _ (hHeld.below hb3) (fun hHeld => ?_)
      clear hK K
      try simp only [Act.put, List.setIfInBounds_toArray, List.set_cons_zero, List.set_cons_succ, List.getElem_toArray, List.getElem_cons_succ, List.getElem_cons_zero]
      refine wpAnyH_take (i := 5) (v := ?vx5_5) rfl (by kernel_rfl) (by kernel_rfl) (by kernel_rfl) (fun _ _ _ h => h) (Or.inl ⟨by rfl, ?hyx5_5⟩) (by assumption) ?restx5_5
      case hyx5_5 => (intro w hSw; have F := Ok.sees hSw; clear hSw; simp only [sees, kCells, kBlk, cellsFrom, Nat.add_zero] at F; go_simp; (try rw [if_neg (by omega)]); try with_reducible rfl)
      try simp only [Act.put, List.setIfInBounds_toArray, List.set_cons_zero, List.set_cons_succ, List.getElem_toArray, List.getElem_cons_succ, List.getElem_cons_zero]
      refine wpAnyH_take (i := 6) (v := ?vx6_6) rfl (by kernel_rfl) (by kernel_rfl) (by kernel_rfl) (fun _ _ _ h => h) (Or.inl ⟨by rfl, ?hyx6_6⟩) (by assumption) ?restx6_6
      case hyx6_6 => (intro w hSw; have F := Ok.sees hSw; clear hSw; simp only [sees, kCells, kBlk, cellsFrom, Nat.add_zero] at F; go_simp; (try rw [if_neg (by omega)]); try with_reducible rfl)
      try simp only [Act.put, List.setIfInBounds_toArray, List.set_cons_zero, List.set_cons_succ, List.getElem_toArray, List.getElem_cons_succ, List.getElem_cons_zero]
      refine wpAnyH_take (i := 7) (v := ?vx7_7) rfl (by kernel_rfl) (by kernel_rfl) (by kernel_rfl) (fun _ _ _ h => h) (Or.inl ⟨by rfl, ?hyx7_7⟩) (by assumption) ?restx7_7
      case hyx7_7 => (intro w hSw; have F := Ok.sees hSw; clear hSw; simp only [sees, kCells, kBlk, cellsFrom, Nat.add_zero] at F; go_simp; (try rw [if_neg (by omega)]); try with_reducible rfl)
      try simp only [Act.put, List.setIfInBounds_toArray, List.set_cons_zero, List.set_cons_succ, List.getElem_toArray, List.getElem_cons_succ, List.getElem_cons_zero]
      refine wpAnyH_take (i := 8) (v := ?vx8_8) rfl (by kernel_rfl) (by kernel_rfl) (by kernel_rfl) (fun _ _ _ h => h) (Or.inl ⟨by rfl, ?hyx8_8⟩) (by assumption) ?restx8_8
      case hyx8_8 => (intro w hSw; have F := Ok.sees hSw; clear hSw; simp only [sees, kCells, kBlk, cellsFrom, Nat.add_zero] at F; go_simp; (try rw [if_neg (by omega)]); try with_reducible rfl)
      try simp only [Act.put, List.setIfInBounds_toArray, List.set_cons_zero, List.set_cons_succ, List.getElem_toArray, List.getElem_cons_succ, List.getElem_cons_zero]
      refine wpAnyH_take (i := 9) (v := ?vx9_9) rfl (by kernel_rfl) (by kernel_rfl) (by kernel_rfl) (fun _ _ _ h => h) (Or.inl ⟨by rfl, ?hyx9_9⟩) (by assumption) ?restx9_9
      case hyx9_9 => (intro w hSw; have F := Ok.sees hSw; clear hSw; simp only [sees, kCells, kBlk, cellsFrom, Nat.add_zero] at F; go_simp; (try rw [if_neg (by omega)]); try with_reducible rfl)
      try simp only [Act.put, List.setIfInBounds_toArray, List.set_cons_zero, List.set_cons_succ, List.getElem_toArray, List.getElem_cons_succ, List.getElem_cons_zero]
      refine wpAnyH_take (i := 10) (v := ?vx10_10) rfl (by kernel_rfl) (by kernel_rfl) (by kernel_rfl) (fun _ _ _ h => h) (Or.inl ⟨by rfl, ?hyx10_10⟩) (by assumption) ?restx10_10
      case hyx10_10 => (intro w hSw; have F := Ok.sees hSw; clear hSw; simp only [sees, kCells, kBlk, cellsFrom, Nat.add_zero] at F; go_simp; (try rw [if_neg (by omega)]); try with_reducible rfl)
      try simp only [Act.put, List.setIfInBounds_toArray, List.set_cons_zero, List.set_cons_succ, List.getElem_toArray, List.getElem_cons_succ, List.getElem_cons_zero]
      refine wpAnyH_take (i := 11) (v := ?vx11_11) rfl (by kernel_rfl) (by kernel_rfl) (by kernel_rfl) (fun _ _ _ h => h) (Or.inl ⟨by rfl, ?hyx11_11⟩) (by assumption) ?restx11_11
      case hyx11_11 => (intro w hSw; have F := Ok.sees hSw; clear hSw; simp only [sees, kCells, kBlk, cellsFrom, Nat.add_zero] at F; go_simp; (try rw [if_neg (by omega)]); try with_reducible rfl)
      try simp only [Act.put, List.setIfInBounds_toArray, List.set_cons_zero, List.set_cons_succ, List.getElem_toArray, List.getElem_cons_succ, List.getElem_cons_zero]
      refine wpAnyH_take (i := 12) (v := ?vx12_12) rfl (by kernel_rfl) (by kernel_rfl) (by kernel_rfl) (fun _ _ _ h => h) (Or.inl ⟨by rfl, ?hyx12_12⟩) (by assumption) ?restx12_12
      case hyx12_12 => (intro w hSw; have F := Ok.sees hSw; clear hSw; simp only [sees, kCells, kBlk, cellsFrom, Nat.add_zero] at F; go_simp; (try rw [if_neg (by omega)]); try with_reducible rfl)
      try simp only [Act.put, List.setIfInBounds_toArray, List.set_cons_zero, List.set_cons_succ, List.getElem_toArray, List.getElem_cons_succ, List.getElem_cons_zero]
      refine wpAnyH_take (i := 13) (v := ?vx13_13) rfl (by kernel_rfl) (by kernel_rfl) (by kernel_rfl) (fun _ _ _ h => h) (Or.inl ⟨by rfl, ?hyx13_13⟩) (by assumption) ?restx13_13
      case hyx13_13 => (intro w hSw; have F := Ok.sees hSw; clear hSw; simp only [sees, kCells, kBlk, cellsFrom, Nat.add_zero] at F; go_simp; (try rw [if_neg (by omega)]); try with_reducible rfl)
      try simp only [Act.put, List.setIfInBounds_toArray, List.set_cons_zero, List.set_cons_succ, List.getElem_toArray, List.getElem_cons_succ, List.getElem_cons_zero]
      refine wpAnyH_take (i := 14) (v := ?vx14_14) rfl (by kernel_rfl) (by kernel_rfl) (by kernel_rfl) (fun _ _ _ h => h) (Or.inl ⟨by rfl, ?hyx14_14⟩) (by assumption) ?restx14_14
      case hyx14_14 => (intro w hSw; have F := Ok.sees hSw; clear hSw; simp only [sees, kCells, kBlk, cellsFrom, Nat.add_zero] at F; go_simp; (try rw [if_neg (by omega)]); try with_reducible rfl)
      try simp only [Act.put, List.setIfInBounds_toArray, List.set_cons_zero, List.set_cons_succ, List.getElem_toArray, List.getElem_cons_succ, List.getElem_cons_zero]
      refine wpAnyH_take (i := 15) (v := ?vx15_15) rfl (by kernel_rfl) (by kernel_rfl) (by kernel_rfl) (fun _ _ _ h => h) (Or.inl ⟨by rfl, ?hyx15_15⟩) (by assumption) ?restx15_15
      case hyx15_15 => (intro w hSw; have F := Ok.sees hSw; clear hSw; simp only [sees, kCells, kBlk, cellsFrom, Nat.add_zero] at F; go_simp; (try rw [if_neg (by omega)]); try with_reducible rfl)
      try simp only [Act.put, List.setIfInBounds_toArray, List.set_cons_zero, List.set_cons_succ, List.getElem_toArray, List.getElem_cons_succ, List.getElem_cons_zero]
      refine wpAnyH_take (i := 16) (v := ?vx16_16) rfl (by kernel_rfl) (by kernel_rfl) (by kernel_rfl) (fun _ _ _ h => h) (Or.inl ⟨by rfl, ?hyx16_16⟩) (by assumption) ?restx16_16
      case hyx16_16 => (intro w hSw; have F := Ok.sees hSw; clear hSw; simp only [sees, kCells, kBlk, cellsFrom, Nat.add_zero] at F; go_simp; (try rw [if_neg (by omega)]); try with_reducible rfl)
      try simp only [Act.put, List.setIfInBounds_toArray, List.set_cons_zero, List.set_cons_succ, List.getElem_toArray, List.getElem_cons_succ, List.getElem_cons_zero]
      refine wpAnyH_take (i := 17) (v := ?vx17_17) rfl (by kernel_rfl) (by kernel_rfl) (by kernel_rfl) (fun _ _ _ h => h) (Or.inl ⟨by rfl, ?hyx17_17⟩) (by assumption) ?restx17_17
      case hyx17_17 => (intro w hSw; have F := Ok.sees hSw; clear hSw; simp only [sees, kCells, kBlk, cellsFrom, Nat.add_zero] at F; go_simp; (try rw [if_neg (by omega)]); try with_reducible rfl)
      try simp only [Act.put, List.setIfInBounds_toArray, List.set_cons_zero, List.set_cons_succ, List.getElem_toArray, List.getElem_cons_succ, List.getElem_cons_zero]
      refine wpAnyH_take (i := 18) (v := ?vx18_18) rfl (by kernel_rfl) (by kernel_rfl) (by kernel_rfl) (fun _ _ _ h => h) (Or.inl ⟨by rfl, ?hyx18_18⟩) (by assumption) ?restx18_18
      case hyx18_18 => (intro w hSw; have F := Ok.sees hSw; clear hSw; simp only [sees, kCells, kBlk, cellsFrom, Nat.add_zero] at F; go_simp; (try rw [if_neg (by omega)]); try with_reducible rfl)
      try simp only [Act.put, List.setIfInBounds_toArray, List.set_cons_zero, List.set_cons_succ, List.getElem_toArray, List.getElem_cons_succ, List.getElem_cons_zero]
      refine wpAnyH_take (i := 19) (v := ?vx19_19) rfl (by kernel_rfl) (by kernel_rfl) (by kernel_rfl) (fun _ _ _ h => h) (Or.inl ⟨by rfl, ?hyx19_19⟩) (by assumption) ?restx19_19
      case hyx19_19 => (intro w hSw; have F := Ok.sees hSw; clear hSw; simp only [sees, kCells, kBlk, cellsFrom, Nat.add_zero] at F; go_simp; (try rw [if_neg (by omega)]); try with_reducible rfl)
      try simp only [Act.put, List.setIfInBounds_toArray, List.set_cons_zero, List.set_cons_succ, List.getElem_toArray, List.getElem_cons_succ, List.getElem_cons_zero]
      refine wpAnyH_ready (rs := [20]) (by kernel_rfl) (by simp) ?_
      refine AllReadyH.cons rfl (fun K hK => ?_) AllReadyH.nil
      go_simp
      refine (law_LexTokens (s1 ++ s2) _ (HE.out.below hHeld.bel)).mono ?_
      rintro e w4 ⟨rfl, hb5⟩
      go_wp2_with fail
      refine hK.out _ _ (hHeld.below hb5) (fun hHeld => ?_)
      clear hK K
      try simp only [Act.put, List.setIfInBounds_toArray, List.set_cons_zero, List.set_cons_succ, List.getElem_toArray, List.getElem_cons_succ, List.getElem_cons_zero]
      refine wpAnyH_take (i := 21) (v := ?vx20_21) rfl (by kernel_rfl) (by kernel_rfl) (by kernel_rfl) (fun _ _ _ h => h) (Or.inl ⟨by rfl, ?hyx20_21⟩) (by assumption) ?restx20_21
      case hyx20_21 => (intro w hSw; have F := Ok.sees hSw; clear hSw; simp only [sees, kCells, kBlk, cellsFrom, Nat.add_zero] at F; go_simp; (try rw [if_neg (by omega)]); try with_reducible rfl)
      try simp only [Act.put, List.setIfInBounds_toArray, List.set_cons_zero, List.set_cons_succ, List.getElem_toArray, List.getElem_cons_succ, List.getElem_cons_zero]
      refine wpAnyH_take (i := 22) (v := ?vx21_22) rfl (by kernel_rfl) (by kernel_rfl) (by kernel_rfl) (fun _ _ _ h => h) (Or.inl ⟨by rfl, ?hyx21_22⟩) (by assumption) ?restx21_22
      case hyx21_22 => (intro w hSw; have F := Ok.sees hSw; clear hSw; simp only [sees, kCells, kBlk, cellsFrom, Nat.add_zero] at F; go_simp; (try rw [if_neg (by omega)]); try with_reducible rfl)
      try simp only [Act.put, List.setIfInBounds_toArray, List.set_cons_zero, List.set_cons_succ, List.getElem_toArray, List.getElem_cons_succ, List.getElem_cons_zero]
      refine wpAnyH_done (by kernel_rfl) ?_ _
      clear H2
      have H6 := Lib.hid hHeld
      clear hHeld
      go_wp2_with fail
      go_roundw
      case rel => exact ⟨i + 1, by omega, by go_num, Lib.hid (H6.out.drop _ (by simp))⟩
      case measure => simp [intOf]; omega
    · clear hblk
      have HB := Lib.hid HR.out.bel
      clear HR HS HAL
      go_wp2_with fail
      go_loopw [3, 4] (fun cv bv wr => ∃ c : Nat, c ≤ 256 ∧ cv = .int .i64 (c : Int) ∧ Hid (Below w.heap.size w wr)) (fun cv _ _ => 256 - (intOf cv).toNat)
      case atStart => exact ⟨0, Nat.zero_le _, rfl, HB⟩
      case round =>
        clear HB
        obtain ⟨c, hc, rfl, HB⟩ := hrel
        obtain ⟨wp, rfl⟩ : ∃ wp : World, wp = wr := ⟨_, rfl⟩
        by_cases hlt : (c : Int) < 256
        · have hcv := fun (W : World) (x : Int) => run_byte1 (P := Tryz.prog) 49 9 5 Tryz.underlying49 Tryz.underlying5 Tryz.underlying9 W x 5
          have hw8 : IntKind.u8.wrap (c : Int) = (c : Int) := Go.IntWalk.u8_in _ (by omega)
          go_upto_region 11 with fail
          clear hcv
          have HB := Lib.hid (HB.out.alloc HB.out.size (.cells #[.int .u8 (c : Int)] 5))
          obtain ⟨B, hB⟩ : ∃ B : ByteArray, (⟨#[UInt8.ofNat c]⟩ : ByteArray) = B := ⟨_, rfl⟩
          have hBs : B.size ≤ 1 := by rw [← hB]; exact Nat.le_refl _
          rw [hB]
          clear hB
          go_wp2_with fail
          refine (law_LexTokens (_) _ (HE.out.below HB.out)).mono ?_
          rintro e w1 ⟨rfl, hb⟩
          have HB := Lib.hid (HB.out.trans (hb.mono HB.out.size))
          clear hb
          go_wp2_with fail
          refine (law_LexTokens (_) _ (HE.out.below HB.out)).mono ?_
          rintro e w2 ⟨rfl, hb⟩
          have HB := Lib.hid (HB.out.trans (hb.mono HB.out.size))
          clear hb
          go_wp2_with fail
          refine (law_LexTokens (_) _ (HE.out.below HB.out)).mono ?_
          rintro e w3 ⟨rfl, hb⟩
          have HB := Lib.hid (HB.out.trans (hb.mono HB.out.size))
          clear hb
          go_wp2_with fail
          go_roundw
          case rel => exact ⟨c + 1, by omega, by go_num, HB⟩
          case measure => simp [intOf]; omega
        · go_wp2_with fail
          go_loopw [5] (fun kv wr => ∃ k : Nat, k ≤ 13 ∧ kv = .int .u8 (k : Int) ∧ Hid (Below w.heap.size w wr)) (fun kv _ => 13 - (intOf kv).toNat)
          case atStart => exact ⟨0, Nat.zero_le _, rfl, HB⟩
          case round =>
            clear HB
            obtain ⟨k, hk, rfl, HB⟩ := hrel
            obtain ⟨wp, rfl⟩ : ∃ wp : World, wp = wr := ⟨_, rfl⟩
            by_cases hlt : (k : Int) < 13
            · have hk13 : k < 13 := by omega
              have hd1 : decide (k < 13) = true := decide_eq_true hk13
              have hd2 : decide ((k : Int) < 13) = true := decide_eq_true hlt
              go_wp2_with fail
              go_loopw [6] (fun nv wr => ∃ n : Int, -1 ≤ n ∧ n ≤ 15 ∧ nv = .int .i64 n ∧ Hid (Below w.heap.size w wr)) (fun nv _ => (15 - intOf nv).toNat)
              case atStart => exact ⟨-1, by omega, by omega, rfl, HB⟩
              case round =>
                clear HB
                obtain ⟨n, hn1, hn15, rfl, HB⟩ := hrel
                obtain ⟨wq, rfl⟩ : ∃ wq : World, wq = wr := ⟨_, rfl⟩
                by_cases hnl : n < 15
                · go_wp2_with fail
                  have hT : TksAt (wq.alloc (.cells #[.int .u8 k, .int .i64 n, .string ⟨#[]⟩, .int .i64 0, .int .i64 0, .int .i64 0, .int .i64 0, .int .i64 0] 43)) (some ⟨wq.heap.size, 0, none⟩) 1 [((⟨k, n, [], R4.zero, 0⟩ : Tk), (0 : Int))] := tks_lit [((⟨k, n, [], R4.zero, 0⟩ : Tk), (0 : Int))] wq (show 1 ≤ maxLen by decide)
                  have HB := Lib.hid (HB.out.alloc HB.out.size (.cells #[.int .u8 k, .int .i64 n, .string ⟨#[]⟩, .int .i64 0, .int .i64 0, .int .i64 0, .int .i64 0, .int .i64 0] 43))
                  refine (law_LexWrites [((⟨k, n, [], R4.zero, 0⟩ : Tk), (0 : Int))] _ 1 _ hT (by intro x hx; simp at hx; subst hx; constructor <;> simp <;> omega) (HE.out.below HB.out)).mono ?_
                  rintro e w1 ⟨rfl, hb⟩
                  clear hT
                  have HB := Lib.hid (HB.out.trans (hb.mono HB.out.size))
                  clear hb
                  go_wp2_with fail
                  have hT : TksAt (w1.alloc (.cells #[.int .u8 1, .int .i64 5, .string ⟨#[]⟩, .int .i64 0, .int .i64 0, .int .i64 0, .int .i64 0, .int .i64 0, .int .u8 k, .int .i64 n, .string ⟨#[]⟩, .int .i64 0, .int .i64 0, .int .i64 0, .int .i64 0, .int .i64 3, .int .u8 1, .int .i64 0, .string ⟨#[]⟩, .int .i64 0, .int .i64 0, .int .i64 0, .int .i64 0, .int .i64 0] 43)) (some ⟨w1.heap.size, 0, none⟩) 3 [((⟨1, 5, [], R4.zero, 0⟩ : Tk), (0 : Int)), ((⟨k, n, [], R4.zero, 0⟩ : Tk), (3 : Int)), ((⟨1, 0, [], R4.zero, 0⟩ : Tk), (0 : Int))] := tks_lit [((⟨1, 5, [], R4.zero, 0⟩ : Tk), (0 : Int)), ((⟨k, n, [], R4.zero, 0⟩ : Tk), (3 : Int)), ((⟨1, 0, [], R4.zero, 0⟩ : Tk), (0 : Int))] w1 (show 3 ≤ maxLen by decide)
                  have HB := Lib.hid (HB.out.alloc HB.out.size (.cells #[.int .u8 1, .int .i64 5, .string ⟨#[]⟩, .int .i64 0, .int .i64 0, .int .i64 0, .int .i64 0, .int .i64 0, .int .u8 k, .int .i64 n, .string ⟨#[]⟩, .int .i64 0, .int .i64 0, .int .i64 0, .int .i64 0, .int .i64 3, .int .u8 1, .int .i64 0, .string ⟨#[]⟩, .int .i64 0, .int .i64 0, .int .i64 0, .int .i64 0, .int .i64 0] 43))
                  refine (law_LexWrites [((⟨1, 5, [], R4.zero, 0⟩ : Tk), (0 : Int)), ((⟨k, n, [], R4.zero, 0⟩ : Tk), (3 : Int)), ((⟨1, 0, [], R4.zero, 0⟩ : Tk), (0 : Int))] _ 3 _ hT (by intro x hx; simp at hx; rcases hx with rfl | rfl | rfl <;> (constructor <;> simp <;> omega)) (HE.out.below HB.out)).mono ?_
                  rintro e w2 ⟨rfl, hb⟩
                  clear hT
                  have HB := Lib.hid (HB.out.trans (hb.mono HB.out.size))
                  clear hb
                  go_wp2_with fail
                  go_roundw
                  case rel => exact ⟨n + 1, by omega, by omega, by go_num, HB⟩
                  case measure => simp [intOf]; omega
                · go_wp2_with fail
                  go_roundw
                  case rel => exact ⟨k + 1, by omega, by go_num, HB⟩
                  case measure => simp [intOf]; omega
            · have HO := Lib.hid (show Ok w [] wp from ⟨HB.out, fun _ h => absurd h (by simp)⟩)
              clear HB
              go_upto_region 23 with fail
              have H1 := Lib.hid (((HO.out.alloc wp.heap.size 30 [.int .i64 1, .int .i64 1, .int .i64 1, .int .i64 1] rfl).alloc (wp.heap.size + 1) 30 [.int .i64 1, .int .i64 1, .int .i64 1024, .int .i64 1024] (by simp)).alloc (wp.heap.size + 1 + 1) 9 [.string ⟨#[]⟩, .string ⟨#[65]⟩, .string ⟨#[97]⟩, .string ⟨#[65, 49]⟩, .string ⟨#[49, 65]⟩, .string ⟨#[83, 85, 77]⟩, .string ⟨#[83, 32, 77]⟩, .string ⟨#[195, 169]⟩] (by simp))
              clear HO
              generalize (((wp.alloc (.cells #[.int .i64 1, .int .i64 1, .int .i64 1, .int .i64 1] 30)).alloc (.cells #[.int .i64 1, .int .i64 1, .int .i64 1024, .int .i64 1024] 30)).alloc (.cells #[.string ⟨#[]⟩, .string ⟨#[65]⟩, .string ⟨#[97]⟩, .string ⟨#[65, 49]⟩, .string ⟨#[49, 65]⟩, .string ⟨#[83, 85, 77]⟩, .string ⟨#[83, 32, 77]⟩, .string ⟨#[195, 169]⟩] 9)) = W2 at H1 ⊢
              go_wp2_with fail
              go_loopw [10] (fun iv wr => ∃ i : Nat, i ≤ 8 ∧ iv = .int .i64 (i : Int) ∧ Hid (Ok w [kBlk (wp.heap.size + 1 + 1) 9 [.string ⟨#[]⟩, .string ⟨#[65]⟩, .string ⟨#[97]⟩, .string ⟨#[65, 49]⟩, .string ⟨#[49, 65]⟩, .string ⟨#[83, 85, 77]⟩, .string ⟨#[83, 32, 77]⟩, .string ⟨#[195, 169]⟩], kBlk (wp.heap.size + 1) 30 [.int .i64 1, .int .i64 1, .int .i64 1024, .int .i64 1024], kBlk (wp.heap.size) 30 [.int .i64 1, .int .i64 1, .int .i64 1, .int .i64 1]] wr)) (fun iv _ => 8 - (intOf iv).toNat)
              case atStart => exact ⟨0, Nat.zero_le _, rfl, H1⟩
              case round =>
                clear H1
                obtain ⟨i, hi, rfl, HR⟩ := hrel
                obtain ⟨wq, rfl⟩ : ∃ wq : World, wq = wr := ⟨_, rfl⟩
                by_cases hit : (i : Int) < 8
                · obtain ⟨s1, hs1, c1⟩ := str_at (HR.out.get (kBlk (wp.heap.size + 1 + 1) 9 [.string ⟨#[]⟩, .string ⟨#[65]⟩, .string ⟨#[97]⟩, .string ⟨#[65, 49]⟩, .string ⟨#[49, 65]⟩, .string ⟨#[83, 85, 77]⟩, .string ⟨#[83, 32, 77]⟩, .string ⟨#[195, 169]⟩]) (by simp)) (by decide) (n := 8) rfl i (by omega)
                  have HC := Lib.hid (HR.out.add (kCells (wp.heap.size + 1 + 1) i [.string s1]) ⟨World.block_lt_of_cell? wq _ c1, c1, trivial⟩)
                  have hlt9 := World.block_lt_of_cell? wq _ c1
                  go_wp2_with fail
                  clear c1 hlt9
                  have hT : TksAt (wq.alloc (.cells #[.int .u8 7, .int .i64 0, .string s1, .int .i64 0, .int .i64 0, .int .i64 0, .int .i64 0, .int .i64 0, .int .u8 9, .int .i64 0, .string ⟨#[]⟩, .int .i64 0, .int .i64 0, .int .i64 0, .int .i64 0, .int .i64 0] 43)) (some ⟨wq.heap.size, 0, none⟩) 2 [((⟨7, 0, s1.data.toList, R4.zero, 0⟩ : Tk), (0 : Int)), ((⟨9, 0, [], R4.zero, 0⟩ : Tk), (0 : Int))] := tks_lit [((⟨7, 0, s1.data.toList, R4.zero, 0⟩ : Tk), (0 : Int)), ((⟨9, 0, [], R4.zero, 0⟩ : Tk), (0 : Int))] wq (show 2 ≤ maxLen by decide)
                  refine (law_LexWrites [((⟨7, 0, s1.data.toList, R4.zero, 0⟩ : Tk), (0 : Int)), ((⟨9, 0, [], R4.zero, 0⟩ : Tk), (0 : Int))] _ 2 _ hT (by intro x hx; simp at hx; rcases hx with rfl | rfl <;> (constructor <;> simp <;> omega)) (HE.out.below (HC.out.bel.alloc HC.out.bel.size _))).mono ?_
                  rintro e w3 ⟨rfl, hb⟩
                  have H4 := Lib.hid ((HC.out.below ((Below.refl _ _).alloc (Nat.le_refl _) _)).below hb)
                  clear hT hb HC
                  have hlt9 : wp.heap.size + 1 + 1 < w3.heap.size := (H4.out.get (kCells (wp.heap.size + 1 + 1) i [.string s1]) (by simp)).1
                  have c1 : w3.cell? ⟨wp.heap.size + 1 + 1, i, none⟩ = some (.string s1) := (H4.out.get (kCells (wp.heap.size + 1 + 1) i [.string s1]) (by simp)).2.1
                  go_wp2_with fail
                  clear c1 hlt9
                  have hT : TksAt (w3.alloc (.cells #[.int .u8 2, .int .i64 0, .string s1, .int .i64 0, .int .i64 0, .int .i64 0, .int .i64 0, .int .i64 0] 43)) (some ⟨w3.heap.size, 0, none⟩) 1 [((⟨2, 0, s1.data.toList, R4.zero, 0⟩ : Tk), (0 : Int))] := tks_lit [((⟨2, 0, s1.data.toList, R4.zero, 0⟩ : Tk), (0 : Int))] w3 (show 1 ≤ maxLen by decide)
                  refine (law_LexWrites [((⟨2, 0, s1.data.toList, R4.zero, 0⟩ : Tk), (0 : Int))] _ 1 _ hT (by intro x hx; simp at hx; subst hx; constructor <;> simp <;> omega) (HE.out.below (H4.out.bel.alloc H4.out.bel.size _))).mono ?_
                  rintro e w5 ⟨rfl, hb⟩
                  have H6 := Lib.hid ((H4.out.below ((Below.refl _ _).alloc (Nat.le_refl _) _)).below hb)
                  clear hT hb H4
                  have hlt9 : wp.heap.size + 1 + 1 < w5.heap.size := (H6.out.get (kCells (wp.heap.size + 1 + 1) i [.string s1]) (by simp)).1
                  have c1 : w5.cell? ⟨wp.heap.size + 1 + 1, i, none⟩ = some (.string s1) := (H6.out.get (kCells (wp.heap.size + 1 + 1) i [.string s1]) (by simp)).2.1
                  go_wp2_with fail
                  clear c1 hlt9
                  have hT : TksAt (w5.alloc (.cells #[.int .u8 7, .int .i64 0, .string s1, .int .i64 0, .int .i64 0, .int .i64 0, .int .i64 0, .int .i64 0] 43)) (some ⟨w5.heap.size, 0, none⟩) 1 [((⟨7, 0, s1.data.toList, R4.zero, 0⟩ : Tk), (0 : Int))] := tks_lit [((⟨7, 0, s1.data.toList, R4.zero, 0⟩ : Tk), (0 : Int))] w5 (show 1 ≤ maxLen by decide)
                  refine (law_LexWrites [((⟨7, 0, s1.data.toList, R4.zero, 0⟩ : Tk), (0 : Int))] _ 1 _ hT (by intro x hx; simp at hx; subst hx; constructor <;> simp <;> omega) (HE.out.below (H6.out.bel.alloc H6.out.bel.size _))).mono ?_
                  rintro e w7 ⟨rfl, hb⟩
                  have H8 := Lib.hid ((H6.out.below ((Below.refl _ _).alloc (Nat.le_refl _) _)).below hb)
                  clear hT hb H6
                  have hlt9 : wp.heap.size + 1 + 1 < w7.heap.size := (H8.out.get (kCells (wp.heap.size + 1 + 1) i [.string s1]) (by simp)).1
                  have c1 : w7.cell? ⟨wp.heap.size + 1 + 1, i, none⟩ = some (.string s1) := (H8.out.get (kCells (wp.heap.size + 1 + 1) i [.string s1]) (by simp)).2.1
                  go_wp2_with fail
                  go_roundw
                  case rel => exact ⟨i + 1, by omega, by go_num, Lib.hid (H8.out.tail)⟩
                  case measure => simp [intOf]; omega
                · have F3 := HR.out.sees
                  simp only [sees, kBlk, cellsAt, Nat.reduceAdd] at F3
                  obtain ⟨⟨z0, c0_0, c0_1, c0_2, c0_3, c0_4, c0_5, c0_6, c0_7, -⟩, ⟨z1, c1_0, c1_1, c1_2, c1_3, -⟩, ⟨z2, c2_0, c2_1, c2_2, c2_3, -⟩, -⟩ := F3
                  go_wp2_with fail
                  clear z0 c0_0 c0_1 c0_2 c0_3 c0_4 c0_5 c0_6 c0_7 z1 c1_0 c1_1 c1_2 c1_3 z2 c2_0 c2_1 c2_2 c2_3
                  have HB := Lib.hid HR.out.bel
                  clear HR
                  go_loopw [137] (fun rv wr => ∃ r : Nat, r ≤ 4 ∧ rv = .int .i64 (r : Int) ∧ Hid (Below w.heap.size w wr)) (fun rv _ => 4 - (intOf rv).toNat)
                  case atStart => exact ⟨0, Nat.zero_le _, rfl, HB⟩
                  case round =>
                    clear HB
                    obtain ⟨r, hr, rfl, HB⟩ := hrel
                    obtain ⟨wz, rfl⟩ : ∃ wz : World, wz = wr := ⟨_, rfl⟩
                    rcases (show r = 0 ∨ r = 1 ∨ r = 2 ∨ r = 3 ∨ r = 4 by omega) with rfl | rfl | rfl | rfl | rfl
                    · have hix := (idx4 wz (.int .i64 1) (.int .i64 1) (.int .i64 1) (.int .i64 1) (.int .i64 1) (.int .i64 1) (.int .i64 1024) (.int .i64 1024) (.int .i64 0) (.int .i64 0) (.int .i64 0) (.int .i64 0) (.int .i64 2) (.int .i64 1) (.int .i64 1) (.int .i64 1)).1
                      have HO := Lib.hid (show Ok w [] wz from ⟨HB.out, fun _ h => absurd h (by simp)⟩)
                      clear HB
                      go_upto_region 31 with fail
                      clear hix
                      have H4 := Lib.hid (HO.out.alloc wz.heap.size 30 [.int .i64 1, .int .i64 1, .int .i64 1, .int .i64 1] rfl)
                      clear HO
                      generalize (wz.alloc (.cells #[.int .i64 1, .int .i64 1, .int .i64 1, .int .i64 1] 30)) = W5 at H4 ⊢
                      have F6 := H4.out.sees
                      simp only [sees, kBlk, cellsAt, Nat.reduceAdd] at F6
                      obtain ⟨⟨z0, c0_0, c0_1, c0_2, c0_3, -⟩, -⟩ := F6
                      go_wp2_with fail
                      clear z0 c0_0 c0_1 c0_2 c0_3
                      have hT : TksAt (W5.alloc (.cells #[.int .u8 5, .int .i64 0, .string ⟨#[]⟩, .int .i64 1, .int .i64 1, .int .i64 1, .int .i64 1, .int .i64 0] 43)) (some ⟨W5.heap.size, 0, none⟩) 1 [((⟨5, 0, [], ⟨1, 1, 1, 1⟩, 0⟩ : Tk), (0 : Int))] := tks_lit [((⟨5, 0, [], ⟨1, 1, 1, 1⟩, 0⟩ : Tk), (0 : Int))] W5 (show 1 ≤ maxLen by decide)
                      refine (law_LexWrites [((⟨5, 0, [], ⟨1, 1, 1, 1⟩, 0⟩ : Tk), (0 : Int))] _ 1 _ hT (by intro x hx; simp at hx; subst hx; constructor <;> simp <;> omega) (HE.out.below (H4.out.bel.alloc H4.out.bel.size _))).mono ?_
                      rintro e w7 ⟨rfl, hb⟩
                      have H8 := Lib.hid ((H4.out.below ((Below.refl _ _).alloc (Nat.le_refl _) _)).below hb)
                      clear hT hb H4
                      have F9 := H8.out.sees
                      simp only [sees, kBlk, cellsAt, Nat.reduceAdd] at F9
                      obtain ⟨⟨z0, c0_0, c0_1, c0_2, c0_3, -⟩, -⟩ := F9
                      go_wp2_with fail
                      clear z0 c0_0 c0_1 c0_2 c0_3
                      have hT : TksAt (w7.alloc (.cells #[.int .u8 6, .int .i64 0, .string ⟨#[]⟩, .int .i64 1, .int .i64 1, .int .i64 1, .int .i64 1, .int .i64 0] 43)) (some ⟨w7.heap.size, 0, none⟩) 1 [((⟨6, 0, [], ⟨1, 1, 1, 1⟩, 0⟩ : Tk), (0 : Int))] := tks_lit [((⟨6, 0, [], ⟨1, 1, 1, 1⟩, 0⟩ : Tk), (0 : Int))] w7 (show 1 ≤ maxLen by decide)
                      refine (law_LexWrites [((⟨6, 0, [], ⟨1, 1, 1, 1⟩, 0⟩ : Tk), (0 : Int))] _ 1 _ hT (by intro x hx; simp at hx; subst hx; constructor <;> simp <;> omega) (HE.out.below (H8.out.bel.alloc H8.out.bel.size _))).mono ?_
                      rintro e w10 ⟨rfl, hb⟩
                      have H11 := Lib.hid ((H8.out.below ((Below.refl _ _).alloc (Nat.le_refl _) _)).below hb)
                      clear hT hb H8
                      have F12 := H11.out.sees
                      simp only [sees, kBlk, cellsAt, Nat.reduceAdd] at F12
                      obtain ⟨⟨z0, c0_0, c0_1, c0_2, c0_3, -⟩, -⟩ := F12
                      go_wp2_with fail
                      go_roundw
                      case rel => exact ⟨1, by omega, by go_num, Lib.hid H11.out.bel⟩
                      case measure => simp [intOf]
                    · have hix := (idx4 wz (.int .i64 1) (.int .i64 1) (.int .i64 1) (.int .i64 1) (.int .i64 1) (.int .i64 1) (.int .i64 1024) (.int .i64 1024) (.int .i64 0) (.int .i64 0) (.int .i64 0) (.int .i64 0) (.int .i64 2) (.int .i64 1) (.int .i64 1) (.int .i64 1)).2.1
                      have HO := Lib.hid (show Ok w [] wz from ⟨HB.out, fun _ h => absurd h (by simp)⟩)
                      clear HB
                      go_upto_region 31 with fail
                      clear hix
                      have H4 := Lib.hid (HO.out.alloc wz.heap.size 30 [.int .i64 1, .int .i64 1, .int .i64 1024, .int .i64 1024] rfl)
                      clear HO
                      generalize (wz.alloc (.cells #[.int .i64 1, .int .i64 1, .int .i64 1024, .int .i64 1024] 30)) = W5 at H4 ⊢
                      have F6 := H4.out.sees
                      simp only [sees, kBlk, cellsAt, Nat.reduceAdd] at F6
                      obtain ⟨⟨z0, c0_0, c0_1, c0_2, c0_3, -⟩, -⟩ := F6
                      go_wp2_with fail
                      clear z0 c0_0 c0_1 c0_2 c0_3
                      have hT : TksAt (W5.alloc (.cells #[.int .u8 5, .int .i64 0, .string ⟨#[]⟩, .int .i64 1, .int .i64 1, .int .i64 1024, .int .i64 1024, .int .i64 0] 43)) (some ⟨W5.heap.size, 0, none⟩) 1 [((⟨5, 0, [], ⟨1, 1, 1024, 1024⟩, 0⟩ : Tk), (0 : Int))] := tks_lit [((⟨5, 0, [], ⟨1, 1, 1024, 1024⟩, 0⟩ : Tk), (0 : Int))] W5 (show 1 ≤ maxLen by decide)
                      refine (law_LexWrites [((⟨5, 0, [], ⟨1, 1, 1024, 1024⟩, 0⟩ : Tk), (0 : Int))] _ 1 _ hT (by intro x hx; simp at hx; subst hx; constructor <;> simp <;> omega) (HE.out.below (H4.out.bel.alloc H4.out.bel.size _))).mono ?_
                      rintro e w7 ⟨rfl, hb⟩
                      have H8 := Lib.hid ((H4.out.below ((Below.refl _ _).alloc (Nat.le_refl _) _)).below hb)
                      clear hT hb H4
                      have F9 := H8.out.sees
                      simp only [sees, kBlk, cellsAt, Nat.reduceAdd] at F9
                      obtain ⟨⟨z0, c0_0, c0_1, c0_2, c0_3, -⟩, -⟩ := F9
                      go_wp2_with fail
                      clear z0 c0_0 c0_1 c0_2 c0_3
                      have hT : TksAt (w7.alloc (.cells #[.int .u8 6, .int .i64 0, .string ⟨#[]⟩, .int .i64 1, .int .i64 1, .int .i64 1024, .int .i64 1024, .int .i64 0] 43)) (some ⟨w7.heap.size, 0, none⟩) 1 [((⟨6, 0, [], ⟨1, 1, 1024, 1024⟩, 0⟩ : Tk), (0 : Int))] := tks_lit [((⟨6, 0, [], ⟨1, 1, 1024, 1024⟩, 0⟩ : Tk), (0 : Int))] w7 (show 1 ≤ maxLen by decide)
                      refine (law_LexWrites [((⟨6, 0, [], ⟨1, 1, 1024, 1024⟩, 0⟩ : Tk), (0 : Int))] _ 1 _ hT (by intro x hx; simp at hx; subst hx; constructor <;> simp <;> omega) (HE.out.below (H8.out.bel.alloc H8.out.bel.size _))).mono ?_
                      rintro e w10 ⟨rfl, hb⟩
                      have H11 := Lib.hid ((H8.out.below ((Below.refl _ _).alloc (Nat.le_refl _) _)).below hb)
                      clear hT hb H8
                      have F12 := H11.out.sees
                      simp only [sees, kBlk, cellsAt, Nat.reduceAdd] at F12
                      obtain ⟨⟨z0, c0_0, c0_1, c0_2, c0_3, -⟩, -⟩ := F12
                      go_wp2_with fail
                      go_roundw
                      case rel => exact ⟨2, by omega, by go_num, Lib.hid H11.out.bel⟩
                      case measure => simp [intOf]
                    · have hix := (idx4 wz (.int .i64 1) (.int .i64 1) (.int .i64 1) (.int .i64 1) (.int .i64 1) (.int .i64 1) (.int .i64 1024) (.int .i64 1024) (.int .i64 0) (.int .i64 0) (.int .i64 0) (.int .i64 0) (.int .i64 2) (.int .i64 1) (.int .i64 1) (.int .i64 1)).2.2.1
                      have HO := Lib.hid (show Ok w [] wz from ⟨HB.out, fun _ h => absurd h (by simp)⟩)
                      clear HB
                      go_upto_region 31 with fail
                      clear hix
                      have H4 := Lib.hid (HO.out.alloc wz.heap.size 30 [.int .i64 0, .int .i64 0, .int .i64 0, .int .i64 0] rfl)
                      clear HO
                      generalize (wz.alloc (.cells #[.int .i64 0, .int .i64 0, .int .i64 0, .int .i64 0] 30)) = W5 at H4 ⊢
                      have F6 := H4.out.sees
                      simp only [sees, kBlk, cellsAt, Nat.reduceAdd] at F6
                      obtain ⟨⟨z0, c0_0, c0_1, c0_2, c0_3, -⟩, -⟩ := F6
                      go_wp2_with fail
                      clear z0 c0_0 c0_1 c0_2 c0_3
                      have hT : TksAt (W5.alloc (.cells #[.int .u8 5, .int .i64 0, .string ⟨#[]⟩, .int .i64 0, .int .i64 0, .int .i64 0, .int .i64 0, .int .i64 0] 43)) (some ⟨W5.heap.size, 0, none⟩) 1 [((⟨5, 0, [], ⟨0, 0, 0, 0⟩, 0⟩ : Tk), (0 : Int))] := tks_lit [((⟨5, 0, [], ⟨0, 0, 0, 0⟩, 0⟩ : Tk), (0 : Int))] W5 (show 1 ≤ maxLen by decide)
                      refine (law_LexWrites [((⟨5, 0, [], ⟨0, 0, 0, 0⟩, 0⟩ : Tk), (0 : Int))] _ 1 _ hT (by intro x hx; simp at hx; subst hx; constructor <;> simp <;> omega) (HE.out.below (H4.out.bel.alloc H4.out.bel.size _))).mono ?_
                      rintro e w7 ⟨rfl, hb⟩
                      have H8 := Lib.hid ((H4.out.below ((Below.refl _ _).alloc (Nat.le_refl _) _)).below hb)
                      clear hT hb H4
                      have F9 := H8.out.sees
                      simp only [sees, kBlk, cellsAt, Nat.reduceAdd] at F9
                      obtain ⟨⟨z0, c0_0, c0_1, c0_2, c0_3, -⟩, -⟩ := F9
                      go_wp2_with fail
                      clear z0 c0_0 c0_1 c0_2 c0_3
                      have hT : TksAt (w7.alloc (.cells #[.int .u8 6, .int .i64 0, .string ⟨#[]⟩, .int .i64 0, .int .i64 0, .int .i64 0, .int .i64 0, .int .i64 0] 43)) (some ⟨w7.heap.size, 0, none⟩) 1 [((⟨6, 0, [], ⟨0, 0, 0, 0⟩, 0⟩ : Tk), (0 : Int))] := tks_lit [((⟨6, 0, [], ⟨0, 0, 0, 0⟩, 0⟩ : Tk), (0 : Int))] w7 (show 1 ≤ maxLen by decide)
                      refine (law_LexWrites [((⟨6, 0, [], ⟨0, 0, 0, 0⟩, 0⟩ : Tk), (0 : Int))] _ 1 _ hT (by intro x hx; simp at hx; subst hx; constructor <;> simp <;> omega) (HE.out.below (H8.out.bel.alloc H8.out.bel.size _))).mono ?_
                      rintro e w10 ⟨rfl, hb⟩
                      have H11 := Lib.hid ((H8.out.below ((Below.refl _ _).alloc (Nat.le_refl _) _)).below hb)
                      clear hT hb H8
                      have F12 := H11.out.sees
                      simp only [sees, kBlk, cellsAt, Nat.reduceAdd] at F12
                      obtain ⟨⟨z0, c0_0, c0_1, c0_2, c0_3, -⟩, -⟩ := F12
                      go_wp2_with fail
                      go_roundw
                      case rel => exact ⟨3, by omega, by go_num, Lib.hid H11.out.bel⟩
                      case measure => simp [intOf]
                    · have hix := (idx4 wz (.int .i64 1) (.int .i64 1) (.int .i64 1) (.int .i64 1) (.int .i64 1) (.int .i64 1) (.int .i64 1024) (.int .i64 1024) (.int .i64 0) (.int .i64 0) (.int .i64 0) (.int .i64 0) (.int .i64 2) (.int .i64 1) (.int .i64 1) (.int .i64 1)).2.2.2
                      have HO := Lib.hid (show Ok w [] wz from ⟨HB.out, fun _ h => absurd h (by simp)⟩)
                      clear HB
                      go_upto_region 31 with fail
                      clear hix
                      have H4 := Lib.hid (HO.out.alloc wz.heap.size 30 [.int .i64 2, .int .i64 1, .int .i64 1, .int .i64 1] rfl)
                      clear HO
                      generalize (wz.alloc (.cells #[.int .i64 2, .int .i64 1, .int .i64 1, .int .i64 1] 30)) = W5 at H4 ⊢
                      have F6 := H4.out.sees
                      simp only [sees, kBlk, cellsAt, Nat.reduceAdd] at F6
                      obtain ⟨⟨z0, c0_0, c0_1, c0_2, c0_3, -⟩, -⟩ := F6
                      go_wp2_with fail
                      clear z0 c0_0 c0_1 c0_2 c0_3
                      have hT : TksAt (W5.alloc (.cells #[.int .u8 5, .int .i64 0, .string ⟨#[]⟩, .int .i64 2, .int .i64 1, .int .i64 1, .int .i64 1, .int .i64 0] 43)) (some ⟨W5.heap.size, 0, none⟩) 1 [((⟨5, 0, [], ⟨2, 1, 1, 1⟩, 0⟩ : Tk), (0 : Int))] := tks_lit [((⟨5, 0, [], ⟨2, 1, 1, 1⟩, 0⟩ : Tk), (0 : Int))] W5 (show 1 ≤ maxLen by decide)
                      refine (law_LexWrites [((⟨5, 0, [], ⟨2, 1, 1, 1⟩, 0⟩ : Tk), (0 : Int))] _ 1 _ hT (by intro x hx; simp at hx; subst hx; constructor <;> simp <;> omega) (HE.out.below (H4.out.bel.alloc H4.out.bel.size _))).mono ?_
                      rintro e w7 ⟨rfl, hb⟩
                      have H8 := Lib.hid ((H4.out.below ((Below.refl _ _).alloc (Nat.le_refl _) _)).below hb)
                      clear hT hb H4
                      have F9 := H8.out.sees
                      simp only [sees, kBlk, cellsAt, Nat.reduceAdd] at F9
                      obtain ⟨⟨z0, c0_0, c0_1, c0_2, c0_3, -⟩, -⟩ := F9
                      go_wp2_with fail
                      clear z0 c0_0 c0_1 c0_2 c0_3
                      have hT : TksAt (w7.alloc (.cells #[.int .u8 6, .int .i64 0, .string ⟨#[]⟩, .int .i64 2, .int .i64 1, .int .i64 1, .int .i64 1, .int .i64 0] 43)) (some ⟨w7.heap.size, 0, none⟩) 1 [((⟨6, 0, [], ⟨2, 1, 1, 1⟩, 0⟩ : Tk), (0 : Int))] := tks_lit [((⟨6, 0, [], ⟨2, 1, 1, 1⟩, 0⟩ : Tk), (0 : Int))] w7 (show 1 ≤ maxLen by decide)
                      refine (law_LexWrites [((⟨6, 0, [], ⟨2, 1, 1, 1⟩, 0⟩ : Tk), (0 : Int))] _ 1 _ hT (by intro x hx; simp at hx; subst hx; constructor <;> simp <;> omega) (HE.out.below (H8.out.bel.alloc H8.out.bel.size _))).mono ?_
                      rintro e w10 ⟨rfl, hb⟩
                      have H11 := Lib.hid ((H8.out.below ((Below.refl _ _).alloc (Nat.le_refl _) _)).below hb)
                      clear hT hb H8
                      have F12 := H11.out.sees
                      simp only [sees, kBlk, cellsAt, Nat.reduceAdd] at F12
                      obtain ⟨⟨z0, c0_0, c0_1, c0_2, c0_3, -⟩, -⟩ := F12
                      go_wp2_with fail
                      go_roundw
                      case rel => exact ⟨4, by omega, by go_num, Lib.hid H11.out.bel⟩
                      case measure => simp [intOf]
                    · obtain ⟨i0, hi0, hz0, hz1, hz2⟩ := info_parts info_u8
                      obtain ⟨w2, hmk, hown, hgr⟩ := run_makeSlice_full (P := Tryz.prog) (w := wz) w.heap.size 49 5 i0 (.int .u8 0) 1 Tryz.underlying49 hi0 hz0 hz1 .i64 .i64 301 (by decide) (by rw [hz2]; decide) (by decide) HB.out.size
                      rw [show ((301 : Nat) : Int) = 301 from rfl] at hmk
                      rw [made_bytes] at hown
                      have HB2 := Lib.hid (HB.out.trans (show Below w.heap.size wz w2 from ⟨hgr.os, hgr.tape, hgr.output, hgr.size, fun k hk => hgr.block k (Nat.lt_of_lt_of_le hk HB.out.size) (by simp)⟩))
                      have HO := Lib.hid hown
                      have hgz : w.heap.size ≤ wz.heap.size := HB.out.size
                      clear hi0 hz0 hz1 hz2 hown hgr HB
                      go_wp2_with fail
                      clear hmk
                      obtain ⟨g, hg⟩ : ∃ g, wz.heap.size = g := ⟨_, rfl⟩
                      rw [hg] at HO hgz ⊢
                      clear hg
                      go_loopw [14] (fun jv wr => ∃ (j : Nat) (l : List UInt8), j ≤ 301 ∧ jv = .int .i64 (j : Int) ∧ l.length = 301 ∧ Hid (wr.ownsRow w.heap.size 5 1 (.slice (some ⟨g, 0, none⟩) 301 301) 301 (bytesV l)) ∧ Hid (Below w.heap.size w wr)) (fun jv _ => 301 - (intOf jv).toNat)
                      case atStart => exact ⟨0, _, Nat.zero_le _, rfl, by rw [List.length_replicate], HO, HB2⟩
                      case round =>
                        clear HO HB2
                        obtain ⟨j, l, hj, rfl, hl, HO, HB⟩ := hrel
                        obtain ⟨wy, rfl⟩ : ∃ wy : World, wy = wr := ⟨_, rfl⟩
                        by_cases hjl : (j : Int) < 301
                        · have hc := HO.out.cellAt j (by omega)
                          have hlb : (bytesV l)[j]? = some (.int .u8 ((l[j]'(by omega)).toNat)) := by simp [bytesV]; exact ⟨_, List.getElem?_eq_getElem (by omega), rfl⟩
                          rw [hlb] at hc
                          generalize (l[j]'(by omega)).toNat = x0 at hc
                          have hfz := HO.out.frozenAt j
                          have HO2 := Lib.hid (show (wy.setCell ⟨g, j, none⟩ (.int .u8 49)).ownsRow w.heap.size 5 1 (.slice (some ⟨g, 0, none⟩) 301 301) 301 (bytesV (l.set j 49)) by rw [← bytesV_set]; exact (HO.out.stored j (.int .u8 49)).1)
                          have HB2 := Lib.hid (HB.out.setCell (p := ⟨g, j, none⟩) hgz (.int .u8 49))
                          have HLL := keep (show (l.set j 49).length = 301 by rw [List.length_set]; exact hl)
                          clear hlb HO HB
                          go_wp2_with fail
                          go_roundw
                          case rel => exact ⟨j + 1, l.set j 49, by omega, by go_num, HLL.out, HO2, HB2⟩
                          case measure => simp [intOf]; omega
                        · have HLL := keep hl
                          clear hl
                          have hcv := conv_take (n := 256) (c := 301) HO.out HLL.out (by decide)
                          obtain ⟨S, hS⟩ : ∃ S : ByteArray, (⟨(l.take 256).toArray⟩ : ByteArray) = S := ⟨_, rfl⟩
                          have hSs : S.size ≤ 301 := by rw [← hS]; show (l.take 256).toArray.size ≤ 301; rw [List.size_toArray, List.length_take]; omega
                          rw [hS] at hcv
                          clear hS
                          go_wp2_with fail
                          clear hcv
                          refine (law_LexTokens _ _ (HE.out.below HB.out)).mono ?_
                          rintro e w4 ⟨rfl, hb⟩
                          have HO := Lib.hid (row_kept HO.out hb)
                          have HB := Lib.hid (HB.out.trans (hb.mono HB.out.size))
                          clear hb
                          clear hSs
                          have hcv := conv_take (n := 301) (c := 301) HO.out HLL.out (by decide)
                          obtain ⟨S, hS⟩ : ∃ S : ByteArray, (⟨(l.take 301).toArray⟩ : ByteArray) = S := ⟨_, rfl⟩
                          have hSs : S.size ≤ 301 := by rw [← hS]; show (l.take 301).toArray.size ≤ 301; rw [List.size_toArray, List.length_take]; omega
                          rw [hS] at hcv
                          clear hS
                          go_wp2_with fail
                          clear hcv
                          refine (law_LexTokens _ _ (HE.out.below HB.out)).mono ?_
                          rintro e w5 ⟨rfl, hb⟩
                          have HO := Lib.hid (row_kept HO.out hb)
                          have HB := Lib.hid (HB.out.trans (hb.mono HB.out.size))
                          clear hb
                          clear hSs
                          have hcv := conv_take (n := 254) (c := 301) HO.out HLL.out (by decide)
                          obtain ⟨S, hS⟩ : ∃ S : ByteArray, (⟨(l.take 254).toArray⟩ : ByteArray) = S := ⟨_, rfl⟩
                          have hSs : S.size ≤ 301 := by rw [← hS]; show (l.take 254).toArray.size ≤ 301; rw [List.size_toArray, List.length_take]; omega
                          rw [hS] at hcv
                          clear hS
                          go_wp2_with fail
                          clear hcv
                          refine (law_LexTokens _ _ (HE.out.below HB.out)).mono ?_
                          rintro e w6 ⟨rfl, hb⟩
                          have HO := Lib.hid (row_kept HO.out hb)
                          have HB := Lib.hid (HB.out.trans (hb.mono HB.out.size))
                          clear hb
                          clear hSs
                          have hcv := conv_take (n := 254) (c := 301) HO.out HLL.out (by decide)
                          obtain ⟨S, hS⟩ : ∃ S : ByteArray, (⟨(l.take 254).toArray⟩ : ByteArray) = S := ⟨_, rfl⟩
                          have hSs : S.size ≤ 301 := by rw [← hS]; show (l.take 254).toArray.size ≤ 301; rw [List.size_toArray, List.length_take]; omega
                          rw [hS] at hcv
                          clear hS
                          go_wp2_with fail
                          clear hcv
                          have hT : TksAt (w6.alloc (.cells #[.int .u8 2, .int .i64 0, .string S, .int .i64 0, .int .i64 0, .int .i64 0, .int .i64 0, .int .i64 0] 43)) (some ⟨w6.heap.size, 0, none⟩) 1 [((⟨2, 0, S.data.toList, R4.zero, 0⟩ : Tk), (0 : Int))] := tks_lit [((⟨2, 0, S.data.toList, R4.zero, 0⟩ : Tk), (0 : Int))] w6 (show 1 ≤ maxLen by decide)
                          refine (law_LexWrites [((⟨2, 0, S.data.toList, R4.zero, 0⟩ : Tk), (0 : Int))] _ 1 _ hT (by intro x hx; simp at hx; subst hx; constructor <;> simp <;> omega) (HE.out.below (HB.out.alloc HB.out.size _))).mono ?_
                          rintro e w7 ⟨rfl, hb⟩
                          have HO := Lib.hid (row_kept (row_kept HO.out ((Below.refl _ _).alloc (Nat.le_refl _) _)) hb)
                          have HB := Lib.hid ((HB.out.alloc HB.out.size _).trans (hb.mono (HB.out.alloc HB.out.size _).size))
                          clear hb hT hSs
                          have hcv := conv_take (n := 255) (c := 301) HO.out HLL.out (by decide)
                          obtain ⟨S, hS⟩ : ∃ S : ByteArray, (⟨(l.take 255).toArray⟩ : ByteArray) = S := ⟨_, rfl⟩
                          have hSs : S.size ≤ 301 := by rw [← hS]; show (l.take 255).toArray.size ≤ 301; rw [List.size_toArray, List.length_take]; omega
                          rw [hS] at hcv
                          clear hS
                          go_wp2_with fail
                          clear hcv
                          have hT : TksAt (w7.alloc (.cells #[.int .u8 2, .int .i64 0, .string S, .int .i64 0, .int .i64 0, .int .i64 0, .int .i64 0, .int .i64 0] 43)) (some ⟨w7.heap.size, 0, none⟩) 1 [((⟨2, 0, S.data.toList, R4.zero, 0⟩ : Tk), (0 : Int))] := tks_lit [((⟨2, 0, S.data.toList, R4.zero, 0⟩ : Tk), (0 : Int))] w7 (show 1 ≤ maxLen by decide)
                          refine (law_LexWrites [((⟨2, 0, S.data.toList, R4.zero, 0⟩ : Tk), (0 : Int))] _ 1 _ hT (by intro x hx; simp at hx; subst hx; constructor <;> simp <;> omega) (HE.out.below (HB.out.alloc HB.out.size _))).mono ?_
                          rintro e w8 ⟨rfl, hb⟩
                          have HO := Lib.hid (row_kept (row_kept HO.out ((Below.refl _ _).alloc (Nat.le_refl _) _)) hb)
                          have HB := Lib.hid ((HB.out.alloc HB.out.size _).trans (hb.mono (HB.out.alloc HB.out.size _).size))
                          clear hb hT hSs
                          go_wp2_with fail
                          refine (law_awake7 _ (HE.out.below HB.out)).mono ?_
                          rintro e w77 ⟨rfl, hb⟩
                          have HB := Lib.hid (HB.out.trans (hb.mono HB.out.size))
                          clear hb
                          go_wp2_with fail
                          go_ret
                          exact ⟨rfl, HB.out⟩
theorem LexExamples_walk (w : World) (hL : laidMetH Tryz.prog Rows.lexExamplesRow.laid w) (hS : w.ShapedOpen Tryz.prog) :
    Calls Tryz.prog 7 #[] w fun e w' => e = .returned (.bool true) ∧ Below w.heap.size w w' :=
  law_LexExamples w (env7_of hL hS (by kernel_rfl) (by kernel_rfl))
end Go.Proofs.YtlngjiibbcgkmaaGreatDoor
