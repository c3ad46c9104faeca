/- Contracts of the reference's From, To and Check of ranges, and of package rect's all. -/
import Derived.Test.YtlngjiibbcgkmaaGreatDoorValidR
import Derived.Test.YtlngjiibbcgkmaaGreatDoorRectW
namespace Go.Proofs.YtlngjiibbcgkmaaGreatDoor
open Go.RowKit

theorem ref_From (c1 r1 c2 r2 : Int) (w : World) :
    Calls Tryz.prog 128 #[.agg #[.int .i64 c1, .int .i64 r1, .int .i64 c2, .int .i64 r2]] w fun e w' => e = .returned (.agg #[.int .i64 c1, .int .i64 r1]) ∧ Below w.heap.size w w' := by
  go_enter Tryz.func128, Tryz.ntmps128
  go_wp2
  refine bodyPost_ret (v := .agg #[.int .i64 c1, .int .i64 r1]) (by simp [results, Tryz.results128, go_sem]) rfl ⟨rfl, ?_⟩
  exact ((Below.refl _ _).alloc (Nat.le_refl _) _).alloc (by simp) _

theorem ref_To (c1 r1 c2 r2 : Int) (w : World) :
    Calls Tryz.prog 129 #[.agg #[.int .i64 c1, .int .i64 r1, .int .i64 c2, .int .i64 r2]] w fun e w' => e = .returned (.agg #[.int .i64 c2, .int .i64 r2]) ∧ Below w.heap.size w w' := by
  go_enter Tryz.func129, Tryz.ntmps129
  go_wp2
  refine bodyPost_ret (v := .agg #[.int .i64 c2, .int .i64 r2]) (by simp [results, Tryz.results129, go_sem]) rfl ⟨rfl, ?_⟩
  exact ((Below.refl _ _).alloc (Nat.le_refl _) _).alloc (by simp) _

set_option maxHeartbeats 2000000 in
theorem ref_Check (c1 r1 c2 r2 : Int) (w : World) :
    Calls Tryz.prog 126 #[.agg #[.int .i64 c1, .int .i64 r1, .int .i64 c2, .int .i64 r2]] w fun e w' => e = .returned (.int .i64 (checkE ⟨c1, r1, c2, r2⟩)) ∧ Below w.heap.size w w' := by
  go_enter Tryz.func126, Tryz.ntmps126
  go_wp2_with fail
  have k0 := Blk.new w 30 #[.int .i64 c1, .int .i64 r1, .int .i64 c2, .int .i64 r2]
  have HB_0 : Hid (Below w.heap.size w (w.alloc (.cells #[.int .i64 c1, .int .i64 r1, .int .i64 c2, .int .i64 r2] 30))) := (Below.refl w.heap.size w).alloc (Nat.le_refl _) _
  generalize (w.alloc (.cells #[.int .i64 c1, .int .i64 r1, .int .i64 c2, .int .i64 r2] 30)) = W0 at k0 HB_0 ⊢
  have a_0 := k0.cell 0
  have b_0 := k0.cell 1
  have c_0 := k0.cell 2
  have d_0 := k0.cell 3
  simp at a_0 b_0 c_0 d_0
  clear k0
  refine (ref_From _ _ _ _ _).mono ?_
  rintro e w_1 ⟨rfl, hb_1⟩
  have a_1 := cell_step hb_1 a_0
  have b_1 := cell_step hb_1 b_0
  have c_1 := cell_step hb_1 c_0
  have d_1 := cell_step hb_1 d_0
  have HB_1 := Lib.hid (below_step HB_0.out hb_1)
  clear hb_1 a_0 b_0 c_0 d_0
  go_wp2_with fail
  refine (ref_Valid _ _ _).mono ?_
  rintro e w_2 ⟨rfl, hb_2⟩
  have a_2 := cell_step hb_2 a_1
  have b_2 := cell_step hb_2 b_1
  have c_2 := cell_step hb_2 c_1
  have d_2 := cell_step hb_2 d_1
  have HB_2 := Lib.hid (below_step HB_1.out hb_2)
  clear hb_2 a_1 b_1 c_1 d_1
  cases hv1 : validN c1 r1
  · have HE := Lib.hid (checkE_no (r := ⟨c1, r1, c2, r2⟩) (by simp [checkB, hv1]))
    clear hv1
    go_wp2_with fail
    go_ret
    exact ⟨by rw [HE.out]; rfl, HB_2.out⟩
  · have HV1 := Lib.hid hv1
    clear hv1
    go_wp2_with fail
    refine (ref_To _ _ _ _ _).mono ?_
    rintro e w_103 ⟨rfl, hb_103⟩
    have a_103 := cell_step hb_103 a_2
    have b_103 := cell_step hb_103 b_2
    have c_103 := cell_step hb_103 c_2
    have d_103 := cell_step hb_103 d_2
    have HB_103 := Lib.hid (below_step HB_2.out hb_103)
    clear hb_103 a_2 b_2 c_2 d_2
    go_wp2_with fail
    refine (ref_Valid _ _ _).mono ?_
    rintro e w_104 ⟨rfl, hb_104⟩
    have a_104 := cell_step hb_104 a_103
    have b_104 := cell_step hb_104 b_103
    have c_104 := cell_step hb_104 c_103
    have d_104 := cell_step hb_104 d_103
    have HB_104 := Lib.hid (below_step HB_103.out hb_104)
    clear hb_104 a_103 b_103 c_103 d_103
    cases hv2 : validN c2 r2
    · have HE := Lib.hid (checkE_no (r := ⟨c1, r1, c2, r2⟩) (by simp [checkB, hv2]))
      clear hv2
      go_wp2_with fail
      go_ret
      exact ⟨by rw [HE.out]; rfl, HB_104.out⟩
    · by_cases h1 : c1 ≤ c2
      · by_cases h2 : r1 ≤ r2
        · have HE := Lib.hid (checkE_yes (r := ⟨c1, r1, c2, r2⟩) (by simp [checkB, HV1.out, hv2, h1, h2]))
          clear hv2
          go_wp2_with fail
          go_ret
          exact ⟨by rw [HE.out]; rfl, HB_104.out⟩
        · have HE := Lib.hid (checkE_no (r := ⟨c1, r1, c2, r2⟩) (by simp [checkB, h2]))
          clear hv2
          go_wp2_with fail
          go_ret
          exact ⟨by rw [HE.out]; rfl, HB_104.out⟩
      · have HE := Lib.hid (checkE_no (r := ⟨c1, r1, c2, r2⟩) (by simp [checkB, h1]))
        clear hv2
        go_wp2_with fail
        go_ret
        exact ⟨by rw [HE.out]; rfl, HB_104.out⟩

/-- the cells of a range -/
def rv (r : R4) : Nat → Value
  | 0 => .int .i64 r.c1
  | 1 => .int .i64 r.r1
  | 2 => .int .i64 r.c2
  | _ => .int .i64 r.r2
/-- a slice of ranges that reads as f; nil, too -/
def IsRects (w : World) (B : Nat) (a : Option Addr) (n : Nat) (f : Nat → R4) : Prop := IsRows 4 w B a n (fun i j => rv (f i) j)
theorem IsRects.below {w w' : World} {B B' n : Nat} {a : Option Addr} {f : Nat → R4} (h : IsRects w B a n f) (hb : Below B w w') (hB : B ≤ B') : IsRects w' B' a n f := IsRows.below h hb hB
theorem IsRects.spot {w : World} {B n : Nat} {a : Option Addr} {f : Nat → R4} (h : IsRects w B a n f) (hn : 0 < n) :
    ∃ b off, a = some ⟨b, off, none⟩ ∧ b < B ∧ ∀ i, i < n → (w.cell? ⟨b, off + i * 4, none⟩ = some (.int .i64 (f i).c1) ∧ w.cell? ⟨b, off + i * 4 + 1, none⟩ = some (.int .i64 (f i).r1) ∧ w.cell? ⟨b, off + i * 4 + 2, none⟩ = some (.int .i64 (f i).c2) ∧ w.cell? ⟨b, off + i * 4 + 3, none⟩ = some (.int .i64 (f i).r2)) := by
  obtain ⟨⟨b, off, spot⟩, rfl, hB, hc⟩ := h hn
  have h0 := hc 0 0 hn (by omega)
  have hs : spot = none := by simpa [Addr.add] using World.cell?_spot h0
  subst hs
  refine ⟨b, off, rfl, hB, fun i hi => ⟨?_, ?_, ?_, ?_⟩⟩
  · have := hc i 0 hi (by omega); rwa [show (⟨b, off, none⟩ : Addr).add (i * 4 + 0) = ⟨b, off + i * 4, none⟩ from by unfold Addr.add; split <;> simp_all] at this
  · have := hc i 1 hi (by omega); rwa [show (⟨b, off, none⟩ : Addr).add (i * 4 + 1) = ⟨b, off + i * 4 + 1, none⟩ from by unfold Addr.add; simp; omega] at this
  · have := hc i 2 hi (by omega); rwa [show (⟨b, off, none⟩ : Addr).add (i * 4 + 2) = ⟨b, off + i * 4 + 2, none⟩ from by unfold Addr.add; simp; omega] at this
  · have := hc i 3 hi (by omega); rwa [show (⟨b, off, none⟩ : Addr).add (i * 4 + 3) = ⟨b, off + i * 4 + 3, none⟩ from by unfold Addr.add; simp; omega] at this
def allB (f : Nat → R4) : Nat → Bool
  | 0 => true
  | k + 1 => allB f k && checkB (f k)
theorem allB_no (f : Nat → R4) (k : Nat) (h : checkB (f k) = false) : ∀ n, k < n → allB f n = false := by
  intro n
  induction n with
  | zero => intro h; omega
  | succ n ih =>
    intro hk
    rcases Nat.lt_or_ge k n with h1 | h1
    · simp [allB, ih h1]
    · have : k = n := by omega
      subst this; simp [allB, h]
theorem allB_iff (f : Nat → R4) (n : Nat) : allB f n = true ↔ ∀ i, i < n → checkB (f i) = true := by
  induction n with
  | zero => simp [allB]
  | succ n ih =>
    rw [allB, Bool.and_eq_true, ih]
    constructor
    · rintro ⟨h1, h2⟩ i hi
      rcases Nat.lt_or_ge i n with h | h
      · exact h1 i h
      · have : i = n := by omega
        subst this; exact h2
    · intro h
      exact ⟨fun i hi => h i (by omega), h n (by omega)⟩

end Go.Proofs.YtlngjiibbcgkmaaGreatDoor
