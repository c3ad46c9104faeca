/- The contract of tree.Function. -/
import Derived.Test.YtlngjiibbcgkmaaDoorParC
namespace Go.Proofs.YtlngjiibbcgkmaaDoor
open Go.RowKit

def idxS (xs : List (List UInt8)) (x : List UInt8) : Int := match xs.findIdx? (· == x) with
  | some i => (i : Int)
  | none => -1
theorem idxS_at (xs : List (List UInt8)) (x : List UInt8) (k : Nat) (hk : k < xs.length) (hb : ∀ y ∈ xs.take k, y ≠ x) (h : xs[k] = x) : idxS xs x = (k : Int) := by
  have hf : xs.findIdx? (· == x) = some k := by
    rw [List.findIdx?_eq_some_iff_getElem]
    refine ⟨hk, by simpa using h, fun j hj => ?_⟩
    have := hb xs[j] (by rw [List.mem_take_iff_getElem]; exact ⟨j, by omega, rfl⟩)
    simpa using this
  unfold idxS
  rw [hf]
theorem idxS_no (xs : List (List UInt8)) (x : List UInt8) (hb : ∀ y ∈ xs, y ≠ x) : idxS xs x = -1 := by
  have hf : xs.findIdx? (· == x) = none := by
    rw [List.findIdx?_eq_none_iff]
    intro y hy
    simpa using hb y hy
  unfold idxS
  rw [hf]
set_option maxRecDepth 100000 in
theorem index_strs (xs : List (List UInt8)) (x : List UInt8) (b c : Nat) (w : World) (hl : xs.length ≤ 1000) (hc : ∀ i (h : i < xs.length), w.cell? ⟨b, i, none⟩ = some (.string ⟨xs[i].toArray⟩)) :
    Calls Tryd.prog 93 #[.slice (some ⟨b, 0, none⟩) xs.length c, .string ⟨x.toArray⟩] w fun e w' => e = .returned (.int .i64 (idxS xs x)) ∧ w' = w := by
  have HC := keep hc
  clear hc
  obtain ⟨n, hn⟩ : ∃ n, xs.length = n := ⟨_, rfl⟩
  rw [hn] at hl ⊢
  have HN := keep hn
  clear hn
  go_enter Tryd.func93, Tryd.ntmps93
  go_wp2_with fail
  go_loopw [8] (fun iv wr => ∃ k : Nat, k ≤ n ∧ iv = .int .i64 (k : Int) ∧ Keep (∀ y ∈ xs.take k, y ≠ x) ∧ wr = w) (fun iv _ => n - (intOf iv).toNat)
  case atStart => exact ⟨0, Nat.zero_le _, rfl, keep (by simp), rfl⟩
  case round =>
    obtain ⟨k, hk, rfl, HK, hwr⟩ := hrel
    obtain rfl : w = wr := hwr.symm
    by_cases hlt : (k : Int) < n
    · have hkn : k < xs.length := by rw [HN.out]; omega
      have HKN := keep hkn
      clear hkn
      have hcell := HC.out k HKN.out
      obtain ⟨y, hy⟩ : ∃ y, xs[k]'HKN.out = y := ⟨_, rfl⟩
      rw [hy] at hcell
      have HY := keep hy
      clear hy
      by_cases hxy : y = x
      · subst hxy
        have HI := keep (idxS_at xs y k HKN.out HK.out HY.out)
        go_wp2_with fail
        go_ret
        exact ⟨by rw [HI.out]; rfl, rfl⟩
      · have HNE := keep hxy
        have hb : (x == y) = false := by simpa using fun e => hxy e.symm
        clear hxy
        go_wp2_with fail
        go_roundw
        case rel =>
          refine ⟨k + 1, by omega, by go_num, keep fun z hz => ?_, by first | trivial | rfl⟩
          rw [List.take_succ_eq_append_getElem HKN.out] at hz
          rcases List.mem_append.1 hz with hz | hz
          · exact HK.out z hz
          · simp at hz
            rw [hz]
            rw [HY.out]
            exact HNE.out
        case measure => simp [intOf]; omega
    · have hke : k = n := by omega
      have HI := keep (idxS_no xs x fun y hy => HK.out y (by rw [List.take_of_length_le (by rw [HN.out]; omega)]; exact hy))
      clear hke
      go_wp2_with fail
      go_ret
      exact ⟨by rw [HI.out]; rfl, rfl⟩
end Go.Proofs.YtlngjiibbcgkmaaDoor
