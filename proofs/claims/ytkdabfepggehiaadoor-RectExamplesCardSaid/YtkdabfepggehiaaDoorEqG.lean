/- The contract of the kit's EqualRefs: two slices that read as the same list are equal (the door seat copy of XEqF). -/
import Derived.Test.YtkdabfepggehiaaDoorRefR
namespace Go.Proofs.YtkdabfepggehiaaDoor
open Go.RowKit

def fv (p : Int × Int) : Nat → Value
  | 0 => .int .i64 p.1
  | _ => .int .i64 p.2
def IsRefs (w : World) (B : Nat) (a : Option Addr) (n : Nat) (f : Nat → Int × Int) : Prop := IsRows 2 w B a n (fun i j => fv (f i) j)
theorem IsRefs.below {w w' : World} {B B' n : Nat} {a : Option Addr} {f : Nat → Int × Int} (h : IsRefs w B a n f) (hb : Below B w w') (hB : B ≤ B') : IsRefs w' B' a n f := IsRows.below h hb hB
theorem IsRefs.spot {w : World} {B n : Nat} {a : Option Addr} {f : Nat → Int × Int} (h : IsRefs w B a n f) (hn : 0 < n) :
    ∃ b off, a = some ⟨b, off, none⟩ ∧ b < B ∧ ∀ i, i < n → (w.cell? ⟨b, off + i * 2, none⟩ = some (.int .i64 (f i).1) ∧ w.cell? ⟨b, off + i * 2 + 1, none⟩ = some (.int .i64 (f i).2)) := by
  obtain ⟨⟨b, off, spot⟩, rfl, hB, hc⟩ := h hn
  have h0 := hc 0 0 hn (by omega)
  have hs : spot = none := by simpa [Addr.add] using World.cell?_spot h0
  subst hs
  refine ⟨b, off, rfl, hB, fun i hi => ⟨?_, ?_⟩⟩
  · have := hc i 0 hi (by omega); rwa [show (⟨b, off, none⟩ : Addr).add (i * 2 + 0) = ⟨b, off + i * 2, none⟩ from by unfold Addr.add; split <;> simp_all] at this
  · have := hc i 1 hi (by omega); rwa [show (⟨b, off, none⟩ : Addr).add (i * 2 + 1) = ⟨b, off + i * 2 + 1, none⟩ from by unfold Addr.add; simp; omega] at this
theorem refCells_len (C c1 r1 : Int) (n : Nat) : (refCells C c1 r1 n).length = n * 2 := by
  induction n with
  | zero => rfl
  | succ n ih => rw [refCells_succ, List.length_append, ih]; simp; omega
theorem refCells_at (C c1 r1 : Int) (n : Nat) : ∀ i j, i < n → j < 2 → (refCells C c1 r1 n)[i * 2 + j]? = some (fv (refAt C c1 r1 i) j) := by
  induction n with
  | zero => intro i j h; omega
  | succ n ih =>
    have hl := refCells_len C c1 r1 n
    intro i j hi hj
    rw [refCells_succ]
    rcases Nat.lt_or_ge i n with h | h
    · rw [List.getElem?_append_left (by omega)]; exact ih i j h hj
    · have hin : i = n := by omega
      subst hin
      rw [List.getElem?_append_right (by omega), hl]
      rcases (show j = 0 ∨ j = 1 from by omega) with rfl | rfl <;> simp [fv]
theorem own_refs {w : World} {base n : Nat} {e : TypeId} {v : Value} {C c1 r1 : Int} (h : w.ownsRow base e 2 v n (refCells C c1 r1 n)) :
    ∃ a c, v = .slice a n c ∧ IsRefs w w.heap.size a n (refAt C c1 r1) ∧ n ≤ maxLen := by
  have hc := @World.ownsRow.cells _ _ _ _ _ _ _ h
  have hlt := h.lt
  rcases h.2 with ⟨rfl, rfl⟩ | ⟨g, cap, cur, rfl, _, _, hn, hm, _⟩
  · exact ⟨none, 0, rfl, fun h => absurd h (by omega), by omega⟩
  · refine ⟨_, _, rfl, fun _ => ⟨_, rfl, (hlt g rfl).2, fun i j hi hj => ?_⟩, by omega⟩
    exact hc rfl (i * 2 + j) _ (refCells_at C c1 r1 n i j hi hj)

set_option maxRecDepth 100000 in
set_option maxHeartbeats 4000000 in
theorem equal_refs (a b : Option Addr) (n c d : Nat) (f : Nat → Int × Int) (w : World) (hn : n ≤ 9223372036854775807) (ha : IsRefs w w.heap.size a n f) (hb : IsRefs w w.heap.size b n f) :
    Calls Tryd.prog 61 #[.slice a n c, .slice b n d] w fun e w' => e = .returned (.bool true) ∧ Below w.heap.size w w' := by
  have HA := Lib.hid ha
  have HB := Lib.hid hb
  clear ha hb
  go_enter Tryd.func61, Tryd.ntmps61
  go_wp2_with fail
  go_loopw [5] (fun i wr => ∃ k : Nat, k ≤ n ∧ i = .int .i64 k ∧ Hid (Below w.heap.size w wr)) (fun i _ => n - (intOf i).toNat)
  case atStart => exact ⟨0, Nat.zero_le _, rfl, Below.refl _ _⟩
  case round =>
    obtain ⟨k, hk, rfl, H2⟩ := hrel
    by_cases hlt : k < n
    · obtain ⟨b1, o1, rfl, hB1, hc1⟩ := HA.out.spot (by omega)
      obtain ⟨b2, o2, rfl, hB2, hc2⟩ := HB.out.spot (by omega)
      obtain ⟨c0', c1'⟩ := hc1 k hlt
      have c0 := (H2.out.cell (p := ⟨b1, o1 + k * 2, none⟩) hB1).trans c0'
      have c1 := (H2.out.cell (p := ⟨b1, o1 + k * 2 + 1, none⟩) hB1).trans c1'
      clear c0' c1' hc1
      obtain ⟨c0', c1'⟩ := hc2 k hlt
      have d0 := (H2.out.cell (p := ⟨b2, o2 + k * 2, none⟩) hB2).trans c0'
      have d1 := (H2.out.cell (p := ⟨b2, o2 + k * 2 + 1, none⟩) hB2).trans c1'
      clear c0' c1' hc2
      generalize f k = r at c0 c1 d0 d1
      obtain ⟨x1, y1⟩ := r
      simp only [] at c0 c1 d0 d1
      go_wp2_with fail
      go_region_held3 (fun w' => w'.cell? ⟨b1, o1 + k * 2, none⟩ = some (.int .i64 x1) ∧ w'.cell? ⟨b1, o1 + k * 2 + 1, none⟩ = some (.int .i64 y1) ∧ w'.cell? ⟨b2, o2 + k * 2, none⟩ = some (.int .i64 x1) ∧ w'.cell? ⟨b2, o2 + k * 2 + 1, none⟩ = some (.int .i64 y1)) (go_keep) (fail)
      go_wp2_with fail
      go_roundw
      case rel => exact ⟨k + 1, by omega, by go_num, H2.out.drew⟩
      case measure => simp [intOf]; omega
    · have hke : k = n := by omega
      subst hke
      go_wp2_with fail
      go_ret
      exact ⟨rfl, H2.out⟩
end Go.Proofs.YtkdabfepggehiaaDoor
