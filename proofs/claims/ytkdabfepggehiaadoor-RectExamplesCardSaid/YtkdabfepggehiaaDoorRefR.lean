/- The contract of package rect's Refs (the door seat's copy: XRefs without the reference). -/
import Derived.Test.YtkdabfepggehiaaDoorCorn
import Derived.Test.YtkdabfepggehiaaDoorRectW4
namespace Go.Proofs.YtkdabfepggehiaaDoor
open Go.RowKit

/-- the first n addresses of a range C wide that begins at c1, r1, row by row -/
def refAt (C c1 r1 : Int) (i : Nat) : Int × Int := (c1 + (i : Int) % C, r1 + (i : Int) / C)
def refCells (C c1 r1 : Int) (n : Nat) : List Value := (List.range n).flatMap fun i => [.int .i64 (refAt C c1 r1 i).1, .int .i64 (refAt C c1 r1 i).2]
theorem refCells_succ (C c1 r1 : Int) (n : Nat) : refCells C c1 r1 (n + 1) = refCells C c1 r1 n ++ [.int .i64 (refAt C c1 r1 n).1, .int .i64 (refAt C c1 r1 n).2] := by
  simp [refCells, List.range_succ]
theorem refAt_spot (C c1 r1 : Int) (k j : Nat) (hj : (j : Int) < C) (n : Nat) (hn : (n : Int) = k * C + j) : refAt C c1 r1 n = (c1 + j, r1 + k) := by
  have hC : 0 < C := by omega
  unfold refAt
  rw [hn, Int.add_comm ((k : Int) * C) j, Int.add_mul_emod_self_right, Int.add_mul_ediv_right _ _ (by omega), Int.emod_eq_of_lt (by omega) hj, Int.ediv_eq_zero_of_lt (by omega) hj]
  simp
def refsE (r : R4) : Int := if checkB r = true then (if 1024 < areaN r then 5 else 0) else 3
def refsN (r : R4) : Nat := if checkB r = true ∧ ¬ 1024 < areaN r then (areaN r).toNat else 0
theorem refsE_no {r : R4} (h : checkB r = false) : refsE r = 3 := by unfold refsE; rw [if_neg (by simp [h])]
theorem refsN_no {r : R4} (h : checkB r = false) : refsN r = 0 := by unfold refsN; rw [if_neg (by simp [h])]
theorem refsE_long {r : R4} (h : checkB r = true) (h2 : 1024 < areaN r) : refsE r = 5 := by unfold refsE; rw [if_pos h, if_pos h2]
theorem refsN_long {r : R4} (h2 : 1024 < areaN r) : refsN r = 0 := by unfold refsN; rw [if_neg (by simp [h2])]
theorem refsE_yes {r : R4} (h : checkB r = true) (h2 : ¬ 1024 < areaN r) : refsE r = 0 := by unfold refsE; rw [if_pos h, if_neg h2]
theorem refsN_yes {r : R4} (h : checkB r = true) (h2 : ¬ 1024 < areaN r) : refsN r = (areaN r).toNat := by unfold refsN; rw [if_pos ⟨h, h2⟩]

set_option maxRecDepth 100000 in
set_option maxHeartbeats 4000000 in
theorem rect_Refs (a1 a2 a3 a4 : Int) (w : World) :
    Calls Tryd.prog 55 #[.agg #[.int .i64 a1, .int .i64 a2, .int .i64 a3, .int .i64 a4]] w fun e w' => ∃ v, e = .returned (.tuple #[v, .int .i64 (refsE ⟨a1, a2, a3, a4⟩)]) ∧ w'.ownsRow w.heap.size 23 2 v (refsN ⟨a1, a2, a3, a4⟩) (refCells (a3 - a1 + 1) a1 a2 (refsN ⟨a1, a2, a3, a4⟩)) ∧ Below w.heap.size w w' := by
  have hb0 : Below w.heap.size w (w.alloc (.cells #[.int .i64 a1, .int .i64 a2, .int .i64 a3, .int .i64 a4] 38)) := (Below.refl _ _).alloc (Nat.le_refl _) _
  have k0 := Blk.new w 38 #[.int .i64 a1, .int .i64 a2, .int .i64 a3, .int .i64 a4]
  have hz0 : w.heap.size < (w.alloc (.cells #[.int .i64 a1, .int .i64 a2, .int .i64 a3, .int .i64 a4] 38)).heap.size := by simp
  have HB0 := Lib.hid hb0
  have HK := Lib.hid k0
  clear hb0 k0
  go_enter Tryd.func55, Tryd.ntmps55
  go_wp2_with fail
  generalize (w.alloc (.cells #[.int .i64 a1, .int .i64 a2, .int .i64 a3, .int .i64 a4] 38)) = W0 at HB0 HK hz0 ⊢
  refine (rect_Area _ _ _ _ _).mono ?_
  rintro e w1 ⟨rfl, hb1⟩
  have k1 := HK.out.below hb1 hz0
  have c0 := k1.cell 0
  have c1 := k1.cell 1
  have c2 := k1.cell 2
  have c3 := k1.cell 3
  simp only [List.getElem?_toArray, List.getElem?_cons_zero, List.getElem?_cons_succ] at c0 c1 c2 c3
  have hz1 : w.heap.size < w1.heap.size := by have := hb1.size; omega
  have HB1 := Lib.hid (below_step HB0.out hb1)
  have HK1 := Lib.hid k1
  clear hb1 k1 HB0 HK hz0
  cases ha : checkB ⟨a1, a2, a3, a4⟩
  · rw [areaS_no ha]
    have HE := Lib.hid (refsE_no ha)
    have HN := Lib.hid (refsN_no ha)
    clear ha
    go_wp2_with fail
    refine bodyPost_ret (v := .tuple #[.slice none 0 0, .int .i64 3]) (by simp [results, Tryd.results55, go_sem]) rfl ⟨_, by rw [HE.out], ?_, HB1.out⟩
    rw [HN.out]
    exact World.ownsRow_nil w1 w.heap.size 23 2
  · rw [areaS_yes ha]
    have hl := area_le ha
    obtain ⟨n, hn⟩ : ∃ n : Nat, areaN ⟨a1, a2, a3, a4⟩ = (n : Int) := ⟨(areaN ⟨a1, a2, a3, a4⟩).toNat, by omega⟩
    rw [hn] at hl ⊢
    obtain ⟨x7, x8⟩ := hl
    by_cases hbig : 1024 < (n : Int)
    · have HE := Lib.hid (refsE_long ha (by rw [hn]; exact hbig))
      have HN := Lib.hid (refsN_long (r := ⟨a1, a2, a3, a4⟩) (by rw [hn]; exact hbig))
      clear ha
      go_wp2_with fail
      refine bodyPost_ret (v := .tuple #[.slice none 0 0, .int .i64 5]) (by simp [results, Tryd.results55, go_sem]) rfl ⟨_, by rw [HE.out], ?_, HB1.out⟩
      rw [HN.out]
      exact World.ownsRow_nil w1 w.heap.size 23 2
    · have HE := Lib.hid (refsE_yes ha (by rw [hn]; exact hbig))
      have HN := Lib.hid (refsN_yes ha (by rw [hn]; exact hbig))
      have hr := (checkB_iff _).1 ha
      simp only [] at hr
      obtain ⟨C, hC⟩ : ∃ C, a3 - a1 + 1 = C := ⟨_, rfl⟩
      obtain ⟨D, hD⟩ : ∃ D, a4 - a2 + 1 = D := ⟨_, rfl⟩
      have hCD : (n : Int) = C * D := by rw [← hn, ← hC, ← hD]; rfl
      have HCD := Lib.hid hCD
      have HN0 := HN.out
      rw [hn, Int.toNat_natCast] at HN0
      have HN' := Lib.hid HN0
      clear ha hn HN HN0 hCD
      obtain ⟨i0, hi, hz0, hz1', hzb⟩ := info_parts info_ref
      go_wp2_with (at_make; refine wpList_make_own _ rfl _ _ 43 rfl w1.heap.size 23 i0 (.agg #[.int .i64 0, .int .i64 0]) 2 Tryd.underlying43 hi hz0 hz1' _ _ _ n rfl rfl (by omega) (by rw [hzb]; omega) (by unfold maxLen; omega) (by omega) ?_; intro w2 hown hgrow; have hbw : Below w1.heap.size w1 w2 := (Below.refl _ _).grown hgrow (Nat.le_refl _) (by simp); have e0 := cell_step hbw c0; have e1 := cell_step hbw c1; have e2 := cell_step hbw c2; have e3 := cell_step hbw c3; have HO := Lib.hid hown; have HBW := Lib.hid hbw; clear hown hgrow hbw)
      clear HK1 c0 c1 c2 c3
      have WSZ : w1.heap.size ≤ w2.heap.size := HBW.out.size
      have HWW := HBW
      go_loopw [6, 7] (fun ov iv wr => ∃ (k m : Nat), k ≤ D.toNat ∧ iv = .int .i64 (a2 + k) ∧ (m : Int) = C * k ∧ Hid (wr.ownsRow w1.heap.size 23 2 ov m (refCells C a1 a2 m)) ∧ Hid (Below w1.heap.size w2 wr)) (fun _ iv _ => (a4 + 1 - intOf iv).toNat)
      case atStart => exact ⟨0, 0, Nat.zero_le _, by simp, by simp, HO, Below.refl _ _⟩
      case round =>
        obtain ⟨k, m, hk, rfl, hm, H1, H2⟩ := hrel
        have g1 := (H2.out.cell (p := ⟨w.heap.size, 0, none⟩) hz1).trans e0
        have g2 := (H2.out.cell (p := ⟨w.heap.size, 2, none⟩) hz1).trans e2
        have g3 := (H2.out.cell (p := ⟨w.heap.size, 3, none⟩) hz1).trans e3
        have HM := Lib.hid hm
        clear hm
        by_cases hlt : (k : Int) < D
        · have hle : a2 + (k : Int) ≤ a4 := by omega
          go_wp2_with fail
          go_loopw [6, 8] (fun ov iv wr => ∃ (j q : Nat), (j : Int) ≤ C ∧ iv = .int .i64 (a1 + j) ∧ (q : Int) = m + j ∧ Hid (wr.ownsRow w1.heap.size 23 2 ov q (refCells C a1 a2 q)) ∧ Hid (Below w1.heap.size w2 wr)) (fun _ iv _ => (a3 + 1 - intOf iv).toNat)
          case atStart => exact ⟨0, m, by omega, by simp, by simp, H1, H2⟩
          case round =>
            obtain ⟨j, q, hj, rfl, hq, H3, H4⟩ := hrel
            have g2' := (H4.out.cell (p := ⟨w.heap.size, 2, none⟩) hz1).trans e2
            by_cases hjlt : (j : Int) < C
            · have hle2 : a1 + (j : Int) ≤ a3 := by omega
              have hqn : (q : Int) < n := by
                have h1 : C * k + C ≤ C * D := by
                  have := Int.mul_le_mul_of_nonneg_left (show (k : Int) + 1 ≤ D by omega) (show 0 ≤ C by omega)
                  rw [Int.mul_add, Int.mul_one] at this
                  exact this
                have := HM.out
                have := HCD.out
                omega
              have hspot := refAt_spot C a1 a2 k j hjlt q (by rw [hq, HM.out, Int.mul_comm])
              have hcs := refCells_succ C a1 a2 q
              rw [hspot] at hcs
              simp only [] at hcs
              have HCS := Lib.hid hcs
              have HQ := Lib.hid hq
              clear hcs hspot hq
              go_wp2_with (at_builtin; refine wpList_append_lies _ rfl _ _ _ rfl w1.heap.size 23 i0 _ 2 16 Tryd.underlying43 hi hz0 hz1' hzb rfl (by omega) _ _ _ rfl (H3.out.alloc _) ⟨wr.heap.size, 0, none⟩ 1 1 [.int .i64 (a1 + j), .int .i64 (a2 + k)] rfl rfl (World.news_of_block (cs := #[.int .i64 (a1 + j), .int .i64 (a2 + k)]) (t := 23) (fr := (0, 0)) (heap_alloc_new _ _)) (by intro u hu; simp at hu; rcases hu with rfl | rfl <;> rfl) (by omega) (by unfold maxLen; omega) (by omega) (by have := H4.out.size; have := WSZ; simp; omega) _ rfl ?_; intro g cap w3 hown3 hgrow3 hat3 hlt3)
              go_roundw
              case rel => exact ⟨j + 1, q + 1, by omega, by go_num, by have := HQ.out; omega, by rw [HCS.out]; exact hown3, Below.grown (B := w1.heap.size) (H4.out.alloc (by have := H4.out.size; have := WSZ; omega) _) hgrow3 (by have := H4.out.size; have := WSZ; simp; omega) (fun k hk => (H3.out.lt k hk).1)⟩
              case measure => simp [intOf]; omega
            · have hje : (j : Int) = C := by omega
              have hle2 : ¬ a1 + (j : Int) ≤ a3 := by omega
              have HQ := Lib.hid hq
              clear hq
              go_wp2_with fail
              go_roundw
              case rel => exact ⟨k + 1, q, by omega, by go_num, by have := HQ.out; have := HM.out; rw [show ((k + 1 : Nat) : Int) = k + 1 from by simp, Int.mul_add, Int.mul_one]; omega, H3, H4⟩
              case measure => simp [intOf]; omega
        · have hke : (k : Int) = D := by omega
          have hle : ¬ a2 + (k : Int) ≤ a4 := by omega
          have hmn : m = n := by have := HM.out; have := HCD.out; rw [hke] at *; omega
          subst hmn
          go_wp2_with fail
          refine bodyPost_ret (v := .tuple #[_, .int .i64 0]) (by simp [results, Tryd.results55, go_sem]; rfl) rfl ⟨_, by rw [HE.out], ?_, HB1.out.trans ((HWW.out.trans H2.out).mono (by omega))⟩
          first | rw [HN'.out, hC] | rw [HN'.out]
          exact H1.out.mono (by omega)

end Go.Proofs.YtkdabfepggehiaaDoor
