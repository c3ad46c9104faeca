/- The contract of the kit's EqualRects: two slices that read as the same list are equal. -/
import Derived.Test.YtkdabfepggehiaaDoorRectW5
namespace Go.Proofs.YtkdabfepggehiaaDoor
open Go.RowKit

theorem own_rects {w : World} {base : Nat} {e : TypeId} {v : Value} {l : List R4} (h : w.ownsRow base e 4 v l.length (rcells l)) :
    ∃ a c, v = .slice a l.length c ∧ IsRects w w.heap.size a l.length (fun i => l.getD i R4.zero) ∧ l.length ≤ maxLen := by
  have hc := @World.ownsRow.cells _ _ _ _ _ _ _ h
  have hlt := h.lt
  rcases h.2 with ⟨rfl, h0⟩ | ⟨g, cap, cur, rfl, _, _, hn, hm, _⟩
  · exact ⟨none, 0, by rw [h0], fun h => absurd h (by omega), by omega⟩
  · refine ⟨_, _, rfl, fun _ => ⟨_, rfl, (hlt g rfl).2, fun i j hi hj => ?_⟩, by omega⟩
    have := hc rfl (i * 4 + j) _ (rcells_at l R4.zero i j hi hj)
    exact this

set_option maxRecDepth 100000 in
set_option maxHeartbeats 4000000 in
theorem equal_rects (a b : Option Addr) (n c d : Nat) (f : Nat → R4) (w : World) (hn : n ≤ 9223372036854775807) (ha : IsRects w w.heap.size a n f) (hb : IsRects w w.heap.size b n f) :
    Calls Tryd.prog 50 #[.slice a n c, .slice b n d] w fun e w' => e = .returned (.bool true) ∧ Below w.heap.size w w' := by
  have HA := Lib.hid ha
  have HB := Lib.hid hb
  clear ha hb
  go_enter Tryd.func50, Tryd.ntmps50
  go_wp2_with fail
  go_loopw [5] (fun i wr => ∃ k : Nat, k ≤ n ∧ i = .int .i64 k ∧ Hid (Below w.heap.size w wr)) (fun i _ => n - (intOf i).toNat)
  case atStart => exact ⟨0, Nat.zero_le _, rfl, Below.refl _ _⟩
  case round =>
    obtain ⟨k, hk, rfl, H2⟩ := hrel
    by_cases hlt : k < n
    · obtain ⟨b1, o1, rfl, hB1, hc1⟩ := HA.out.spot (by omega)
      obtain ⟨b2, o2, rfl, hB2, hc2⟩ := HB.out.spot (by omega)
      obtain ⟨c0', c1', c2', c3'⟩ := hc1 k hlt
      have c0 := (H2.out.cell (p := ⟨b1, o1 + k * 4, none⟩) hB1).trans c0'
      have c1 := (H2.out.cell (p := ⟨b1, o1 + k * 4 + 1, none⟩) hB1).trans c1'
      have c2 := (H2.out.cell (p := ⟨b1, o1 + k * 4 + 2, none⟩) hB1).trans c2'
      have c3 := (H2.out.cell (p := ⟨b1, o1 + k * 4 + 3, none⟩) hB1).trans c3'
      clear c0' c1' c2' c3' hc1
      obtain ⟨c0', c1', c2', c3'⟩ := hc2 k hlt
      have d0 := (H2.out.cell (p := ⟨b2, o2 + k * 4, none⟩) hB2).trans c0'
      have d1 := (H2.out.cell (p := ⟨b2, o2 + k * 4 + 1, none⟩) hB2).trans c1'
      have d2 := (H2.out.cell (p := ⟨b2, o2 + k * 4 + 2, none⟩) hB2).trans c2'
      have d3 := (H2.out.cell (p := ⟨b2, o2 + k * 4 + 3, none⟩) hB2).trans c3'
      clear c0' c1' c2' c3' hc2
      generalize f k = r at c0 c1 c2 c3 d0 d1 d2 d3
      obtain ⟨x1, y1, x2, y2⟩ := r
      simp only [] at c0 c1 c2 c3 d0 d1 d2 d3
      go_wp2_with fail
      go_region_held3 (fun w' => w'.cell? ⟨b1, o1 + k * 4, none⟩ = some (.int .i64 x1) ∧ w'.cell? ⟨b1, o1 + k * 4 + 1, none⟩ = some (.int .i64 y1) ∧ w'.cell? ⟨b1, o1 + k * 4 + 2, none⟩ = some (.int .i64 x2) ∧ w'.cell? ⟨b1, o1 + k * 4 + 3, none⟩ = some (.int .i64 y2) ∧ w'.cell? ⟨b2, o2 + k * 4, none⟩ = some (.int .i64 x1) ∧ w'.cell? ⟨b2, o2 + k * 4 + 1, none⟩ = some (.int .i64 y1) ∧ w'.cell? ⟨b2, o2 + k * 4 + 2, none⟩ = some (.int .i64 x2) ∧ w'.cell? ⟨b2, o2 + k * 4 + 3, none⟩ = some (.int .i64 y2)) (go_keep) (fail)
      go_wp2_with fail
      go_roundw
      case rel => exact ⟨k + 1, by omega, by go_num, H2.out.drew⟩
      case measure => simp [intOf]; omega
    · have hke : k = n := by omega
      subst hke
      go_wp2_with fail
      go_ret
      exact ⟨rfl, H2.out⟩
end Go.Proofs.YtkdabfepggehiaaDoor
