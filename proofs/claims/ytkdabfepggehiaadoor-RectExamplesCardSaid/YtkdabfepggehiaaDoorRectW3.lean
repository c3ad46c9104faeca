/- Contracts of package rect's Meet and of its reference. -/
import Derived.Test.YtkdabfepggehiaaDoorRectW2
namespace Go.Proofs.YtkdabfepggehiaaDoor
open Go.RowKit

/-- three ranges that lie one behind the other in block b -/
theorem rects_of_blk {w : World} {b n : Nat} {t : TypeId} {cs : Array Value} (f : Nat → R4) (h : Blk w b t cs) (hc : ∀ i j, i < n → j < 4 → cs[i * 4 + j]? = some (rv (f i) j)) : IsRects w w.heap.size (some ⟨b, 0, none⟩) n f := by
  intro _
  refine ⟨_, rfl, h.lt, fun i j hi hj => ?_⟩
  rw [show (⟨b, 0, none⟩ : Addr).add (i * 4 + j) = ⟨b, i * 4 + j, none⟩ from by unfold Addr.add; split <;> simp_all]
  rw [h.cell]; exact hc i j hi hj
def three (a b c : R4) : Nat → R4
  | 0 => a
  | 1 => b
  | _ => c
def rcells (l : List R4) : List Value := l.flatMap fun r => [.int .i64 r.c1, .int .i64 r.r1, .int .i64 r.c2, .int .i64 r.r2]
theorem rcells_at (l : List R4) (d : R4) : ∀ i j, i < l.length → j < 4 → (rcells l)[i * 4 + j]? = some (rv (l.getD i d) j) := by
  induction l with
  | nil => intro i j h; simp at h
  | cons r l ih =>
    intro i j hi hj
    match i with
    | 0 =>
      rcases (show j = 0 ∨ j = 1 ∨ j = 2 ∨ j = 3 from by omega) with rfl | rfl | rfl | rfl <;> simp [rcells, rv]
    | i + 1 =>
      have := ih i j (by simpa using hi) hj
      rw [show (i + 1) * 4 + j = (i * 4 + j) + 4 from by omega]
      simpa [rcells, rv] using this
theorem three_all (a b c : R4) : allB (three a b c) 3 = (checkB a && checkB b && checkB c) := by
  simp [allB, three]
theorem meetS_no {a b : R4} (h : meets a b = false) : meetS a b = R4.zero := by unfold meetS; rw [if_neg (by simp [h])]
theorem meetS_yes {a b : R4} (h : meets a b = true) : meetS a b = meetR a b := by unfold meetS; rw [if_pos h]

set_option maxRecDepth 100000 in
set_option maxHeartbeats 4000000 in
theorem rect_Meet (a1 a2 a3 a4 b1 b2 b3 b4 : Int) (w : World) :
    Calls Tryd.prog 31 #[.agg #[.int .i64 a1, .int .i64 a2, .int .i64 a3, .int .i64 a4], .agg #[.int .i64 b1, .int .i64 b2, .int .i64 b3, .int .i64 b4]] w fun e w' =>
      e = .returned (.tuple #[.agg #[.int .i64 (meetS ⟨a1, a2, a3, a4⟩ ⟨b1, b2, b3, b4⟩).c1, .int .i64 (meetS ⟨a1, a2, a3, a4⟩ ⟨b1, b2, b3, b4⟩).r1, .int .i64 (meetS ⟨a1, a2, a3, a4⟩ ⟨b1, b2, b3, b4⟩).c2, .int .i64 (meetS ⟨a1, a2, a3, a4⟩ ⟨b1, b2, b3, b4⟩).r2], .bool (meets ⟨a1, a2, a3, a4⟩ ⟨b1, b2, b3, b4⟩)]) ∧ Below w.heap.size w w' := by
  obtain ⟨m1, h1⟩ : ∃ m, (if b1 > a1 then b1 else a1) = m := ⟨_, rfl⟩
  obtain ⟨m2, h2⟩ : ∃ m, (if b2 > a2 then b2 else a2) = m := ⟨_, rfl⟩
  obtain ⟨m3, h3⟩ : ∃ m, (if b3 < a3 then b3 else a3) = m := ⟨_, rfl⟩
  obtain ⟨m4, h4⟩ : ∃ m, (if b4 < a4 then b4 else a4) = m := ⟨_, rfl⟩
  have hm : meetR ⟨a1, a2, a3, a4⟩ ⟨b1, b2, b3, b4⟩ = ⟨m1, m2, m3, m4⟩ := by
    unfold meetR
    rw [← h1, ← h2, ← h3, ← h4]
    congr 1 <;> (simp only []; split <;> omega)
  have hmeets : meets ⟨a1, a2, a3, a4⟩ ⟨b1, b2, b3, b4⟩ = (checkB ⟨a1, a2, a3, a4⟩ && checkB ⟨b1, b2, b3, b4⟩ && checkB ⟨m1, m2, m3, m4⟩) := by unfold meets; rw [hm]
  have hmeetS : meetS ⟨a1, a2, a3, a4⟩ ⟨b1, b2, b3, b4⟩ = if meets ⟨a1, a2, a3, a4⟩ ⟨b1, b2, b3, b4⟩ = true then ⟨m1, m2, m3, m4⟩ else R4.zero := by unfold meetS; rw [hm]
  have HME := Lib.hid hmeets
  have HMS := Lib.hid hmeetS
  clear hm hmeets hmeetS
  go_enter Tryd.func31, Tryd.ntmps31
  have hb0 : Below w.heap.size w (((((w.alloc (.cells #[.int .i64 a1, .int .i64 a2, .int .i64 a3, .int .i64 a4] 38)).alloc (.cells #[.int .i64 b1, .int .i64 b2, .int .i64 b3, .int .i64 b4] 38)).alloc (.cells #[.int .i64 0, .int .i64 0, .int .i64 0, .int .i64 0] 38)).alloc (.cells #[.int .i64 m1, .int .i64 m2, .int .i64 m3, .int .i64 m4] 38)).alloc (.cells #[.int .i64 a1, .int .i64 a2, .int .i64 a3, .int .i64 a4, .int .i64 b1, .int .i64 b2, .int .i64 b3, .int .i64 b4, .int .i64 m1, .int .i64 m2, .int .i64 m3, .int .i64 m4] 38)) := ((((((Below.refl _ _).alloc (Nat.le_refl _) _).alloc (by simp) _).alloc (by simp; try omega) _).alloc (by simp; try omega) _).alloc (by simp; try omega) _)
  have k3 : Blk (((((w.alloc (.cells #[.int .i64 a1, .int .i64 a2, .int .i64 a3, .int .i64 a4] 38)).alloc (.cells #[.int .i64 b1, .int .i64 b2, .int .i64 b3, .int .i64 b4] 38)).alloc (.cells #[.int .i64 0, .int .i64 0, .int .i64 0, .int .i64 0] 38)).alloc (.cells #[.int .i64 m1, .int .i64 m2, .int .i64 m3, .int .i64 m4] 38)).alloc (.cells #[.int .i64 a1, .int .i64 a2, .int .i64 a3, .int .i64 a4, .int .i64 b1, .int .i64 b2, .int .i64 b3, .int .i64 b4, .int .i64 m1, .int .i64 m2, .int .i64 m3, .int .i64 m4] 38)) (w.heap.size + 1 + 1 + 1) 38 #[.int .i64 m1, .int .i64 m2, .int .i64 m3, .int .i64 m4] := by
    have := (Blk.new (((w.alloc (.cells #[.int .i64 a1, .int .i64 a2, .int .i64 a3, .int .i64 a4] 38)).alloc (.cells #[.int .i64 b1, .int .i64 b2, .int .i64 b3, .int .i64 b4] 38)).alloc (.cells #[.int .i64 0, .int .i64 0, .int .i64 0, .int .i64 0] 38)) 38 #[.int .i64 m1, .int .i64 m2, .int .i64 m3, .int .i64 m4]).alloc (.cells #[.int .i64 a1, .int .i64 a2, .int .i64 a3, .int .i64 a4, .int .i64 b1, .int .i64 b2, .int .i64 b3, .int .i64 b4, .int .i64 m1, .int .i64 m2, .int .i64 m3, .int .i64 m4] 38)
    simpa using this
  have k2 : Blk (((((w.alloc (.cells #[.int .i64 a1, .int .i64 a2, .int .i64 a3, .int .i64 a4] 38)).alloc (.cells #[.int .i64 b1, .int .i64 b2, .int .i64 b3, .int .i64 b4] 38)).alloc (.cells #[.int .i64 0, .int .i64 0, .int .i64 0, .int .i64 0] 38)).alloc (.cells #[.int .i64 m1, .int .i64 m2, .int .i64 m3, .int .i64 m4] 38)).alloc (.cells #[.int .i64 a1, .int .i64 a2, .int .i64 a3, .int .i64 a4, .int .i64 b1, .int .i64 b2, .int .i64 b3, .int .i64 b4, .int .i64 m1, .int .i64 m2, .int .i64 m3, .int .i64 m4] 38)) (w.heap.size + 1 + 1) 38 #[.int .i64 0, .int .i64 0, .int .i64 0, .int .i64 0] := by
    have := (((Blk.new ((w.alloc (.cells #[.int .i64 a1, .int .i64 a2, .int .i64 a3, .int .i64 a4] 38)).alloc (.cells #[.int .i64 b1, .int .i64 b2, .int .i64 b3, .int .i64 b4] 38)) 38 #[.int .i64 0, .int .i64 0, .int .i64 0, .int .i64 0]).alloc (.cells #[.int .i64 m1, .int .i64 m2, .int .i64 m3, .int .i64 m4] 38)).alloc (.cells #[.int .i64 a1, .int .i64 a2, .int .i64 a3, .int .i64 a4, .int .i64 b1, .int .i64 b2, .int .i64 b3, .int .i64 b4, .int .i64 m1, .int .i64 m2, .int .i64 m3, .int .i64 m4] 38))
    simpa using this
  have k4 : Blk (((((w.alloc (.cells #[.int .i64 a1, .int .i64 a2, .int .i64 a3, .int .i64 a4] 38)).alloc (.cells #[.int .i64 b1, .int .i64 b2, .int .i64 b3, .int .i64 b4] 38)).alloc (.cells #[.int .i64 0, .int .i64 0, .int .i64 0, .int .i64 0] 38)).alloc (.cells #[.int .i64 m1, .int .i64 m2, .int .i64 m3, .int .i64 m4] 38)).alloc (.cells #[.int .i64 a1, .int .i64 a2, .int .i64 a3, .int .i64 a4, .int .i64 b1, .int .i64 b2, .int .i64 b3, .int .i64 b4, .int .i64 m1, .int .i64 m2, .int .i64 m3, .int .i64 m4] 38)) (w.heap.size + 1 + 1 + 1 + 1) 38 #[.int .i64 a1, .int .i64 a2, .int .i64 a3, .int .i64 a4, .int .i64 b1, .int .i64 b2, .int .i64 b3, .int .i64 b4, .int .i64 m1, .int .i64 m2, .int .i64 m3, .int .i64 m4] := by
    have := Blk.new ((((w.alloc (.cells #[.int .i64 a1, .int .i64 a2, .int .i64 a3, .int .i64 a4] 38)).alloc (.cells #[.int .i64 b1, .int .i64 b2, .int .i64 b3, .int .i64 b4] 38)).alloc (.cells #[.int .i64 0, .int .i64 0, .int .i64 0, .int .i64 0] 38)).alloc (.cells #[.int .i64 m1, .int .i64 m2, .int .i64 m3, .int .i64 m4] 38)) 38 #[.int .i64 a1, .int .i64 a2, .int .i64 a3, .int .i64 a4, .int .i64 b1, .int .i64 b2, .int .i64 b3, .int .i64 b4, .int .i64 m1, .int .i64 m2, .int .i64 m3, .int .i64 m4]
    simpa using this
  have hz0 : w.heap.size + 1 + 1 + 1 < (((((w.alloc (.cells #[.int .i64 a1, .int .i64 a2, .int .i64 a3, .int .i64 a4] 38)).alloc (.cells #[.int .i64 b1, .int .i64 b2, .int .i64 b3, .int .i64 b4] 38)).alloc (.cells #[.int .i64 0, .int .i64 0, .int .i64 0, .int .i64 0] 38)).alloc (.cells #[.int .i64 m1, .int .i64 m2, .int .i64 m3, .int .i64 m4] 38)).alloc (.cells #[.int .i64 a1, .int .i64 a2, .int .i64 a3, .int .i64 a4, .int .i64 b1, .int .i64 b2, .int .i64 b3, .int .i64 b4, .int .i64 m1, .int .i64 m2, .int .i64 m3, .int .i64 m4] 38)).heap.size := by simp
  have hr : IsRects (((((w.alloc (.cells #[.int .i64 a1, .int .i64 a2, .int .i64 a3, .int .i64 a4] 38)).alloc (.cells #[.int .i64 b1, .int .i64 b2, .int .i64 b3, .int .i64 b4] 38)).alloc (.cells #[.int .i64 0, .int .i64 0, .int .i64 0, .int .i64 0] 38)).alloc (.cells #[.int .i64 m1, .int .i64 m2, .int .i64 m3, .int .i64 m4] 38)).alloc (.cells #[.int .i64 a1, .int .i64 a2, .int .i64 a3, .int .i64 a4, .int .i64 b1, .int .i64 b2, .int .i64 b3, .int .i64 b4, .int .i64 m1, .int .i64 m2, .int .i64 m3, .int .i64 m4] 38)) (((((w.alloc (.cells #[.int .i64 a1, .int .i64 a2, .int .i64 a3, .int .i64 a4] 38)).alloc (.cells #[.int .i64 b1, .int .i64 b2, .int .i64 b3, .int .i64 b4] 38)).alloc (.cells #[.int .i64 0, .int .i64 0, .int .i64 0, .int .i64 0] 38)).alloc (.cells #[.int .i64 m1, .int .i64 m2, .int .i64 m3, .int .i64 m4] 38)).alloc (.cells #[.int .i64 a1, .int .i64 a2, .int .i64 a3, .int .i64 a4, .int .i64 b1, .int .i64 b2, .int .i64 b3, .int .i64 b4, .int .i64 m1, .int .i64 m2, .int .i64 m3, .int .i64 m4] 38)).heap.size (some ⟨w.heap.size + 1 + 1 + 1 + 1, 0, none⟩) 3 (three ⟨a1, a2, a3, a4⟩ ⟨b1, b2, b3, b4⟩ ⟨m1, m2, m3, m4⟩) := rects_of_blk _ k4 (by
    intro i j hi hj
    rcases (show i = 0 ∨ i = 1 ∨ i = 2 from by omega) with rfl | rfl | rfl <;> rcases (show j = 0 ∨ j = 1 ∨ j = 2 ∨ j = 3 from by omega) with rfl | rfl | rfl | rfl <;> rfl)
  have HB0 := Lib.hid hb0
  have HK := Lib.hid k3
  have HK2 := Lib.hid k2
  have HR := Lib.hid hr
  clear hb0 k2 k3 k4 hr
  have HAL : Hid (allB (three ⟨a1, a2, a3, a4⟩ ⟨b1, b2, b3, b4⟩ ⟨m1, m2, m3, m4⟩) 3 = meets ⟨a1, a2, a3, a4⟩ ⟨b1, b2, b3, b4⟩) := by show _ = _; rw [HME.out]; exact three_all _ _ _
  go_wp2_with fail
  generalize (((((w.alloc (.cells #[.int .i64 a1, .int .i64 a2, .int .i64 a3, .int .i64 a4] 38)).alloc (.cells #[.int .i64 b1, .int .i64 b2, .int .i64 b3, .int .i64 b4] 38)).alloc (.cells #[.int .i64 0, .int .i64 0, .int .i64 0, .int .i64 0] 38)).alloc (.cells #[.int .i64 m1, .int .i64 m2, .int .i64 m3, .int .i64 m4] 38)).alloc (.cells #[.int .i64 a1, .int .i64 a2, .int .i64 a3, .int .i64 a4, .int .i64 b1, .int .i64 b2, .int .i64 b3, .int .i64 b4, .int .i64 m1, .int .i64 m2, .int .i64 m3, .int .i64 m4] 38)) = W0 at HB0 HK HK2 HR hz0 ⊢
  refine (rect_all _ _ _ _ _ (by omega) HR.out).mono ?_
  rintro e w1 ⟨rfl, hb1⟩
  rw [HAL.out]
  have k1 := HK.out.below hb1 hz0
  have c0 := k1.cell 0
  have c1 := k1.cell 1
  have c2 := k1.cell 2
  have c3 := k1.cell 3
  have k2 := HK2.out.below hb1 (by omega)
  have d0 := k2.cell 0
  have f0 := k2.frozen 0
  have d1 := k2.cell 1
  have f1 := k2.frozen 1
  have d2 := k2.cell 2
  have f2 := k2.frozen 2
  have d3 := k2.cell 3
  have f3 := k2.frozen 3
  simp only [List.getElem?_toArray, List.getElem?_cons_zero, List.getElem?_cons_succ] at c0 c1 c2 c3 d0 d1 d2 d3
  have HB1 := Lib.hid (below_step HB0.out hb1)
  clear hb1 k1 HB0 HK HK2 k2 HR hz0 h1 h2 h3 h4
  cases hv : meets ⟨a1, a2, a3, a4⟩ ⟨b1, b2, b3, b4⟩
  · have HMS2 : Hid (meetS ⟨a1, a2, a3, a4⟩ ⟨b1, b2, b3, b4⟩ = R4.zero) := by show _ = _; rw [HMS.out, hv]; rfl
    have HV := Lib.hid hv
    clear hv HAL HME HMS
    go_wp2_with fail
    try simp only [Exit.inBlock, Exit.then]
    refine bodyPost_ret (v := .tuple #[.agg #[.int .i64 0, .int .i64 0, .int .i64 0, .int .i64 0], .bool false]) (by simp [results, Tryd.results31, go_sem, d0, d1, d2, d3]) rfl ⟨?_, ((((HB1.out.setCell (by show w.heap.size ≤ w.heap.size + 1 + 1; omega) _).setCell (by show w.heap.size ≤ w.heap.size + 1 + 1; omega) _).setCell (by show w.heap.size ≤ w.heap.size + 1 + 1; omega) _).setCell (by show w.heap.size ≤ w.heap.size + 1 + 1; omega) _)⟩
    rw [HMS2.out, HV.out]
    try rfl
  · have HMS2 : Hid (meetS ⟨a1, a2, a3, a4⟩ ⟨b1, b2, b3, b4⟩ = ⟨m1, m2, m3, m4⟩) := by show _ = _; rw [HMS.out, hv]; rfl
    have HV := Lib.hid hv
    clear hv HAL HME HMS
    go_wp2_with fail
    try simp only [Exit.inBlock, Exit.then]
    refine bodyPost_ret (v := .tuple #[.agg #[.int .i64 m1, .int .i64 m2, .int .i64 m3, .int .i64 m4], .bool true]) (by simp [results, Tryd.results31, go_sem, d0, d1, d2, d3]) rfl ⟨?_, ((((HB1.out.setCell (by show w.heap.size ≤ w.heap.size + 1 + 1; omega) _).setCell (by show w.heap.size ≤ w.heap.size + 1 + 1; omega) _).setCell (by show w.heap.size ≤ w.heap.size + 1 + 1; omega) _).setCell (by show w.heap.size ≤ w.heap.size + 1 + 1; omega) _)⟩
    rw [HMS2.out, HV.out]
    try rfl

set_option maxRecDepth 100000 in
set_option maxHeartbeats 4000000 in
theorem ref_Meet (a1 a2 a3 a4 b1 b2 b3 b4 : Int) (w : World) :
    Calls Tryd.prog 37 #[.agg #[.int .i64 a1, .int .i64 a2, .int .i64 a3, .int .i64 a4], .agg #[.int .i64 b1, .int .i64 b2, .int .i64 b3, .int .i64 b4]] w fun e w' =>
      e = .returned (.tuple #[.agg #[.int .i64 (meetS ⟨a1, a2, a3, a4⟩ ⟨b1, b2, b3, b4⟩).c1, .int .i64 (meetS ⟨a1, a2, a3, a4⟩ ⟨b1, b2, b3, b4⟩).r1, .int .i64 (meetS ⟨a1, a2, a3, a4⟩ ⟨b1, b2, b3, b4⟩).c2, .int .i64 (meetS ⟨a1, a2, a3, a4⟩ ⟨b1, b2, b3, b4⟩).r2], .bool (meets ⟨a1, a2, a3, a4⟩ ⟨b1, b2, b3, b4⟩)]) ∧ Below w.heap.size w w' := by
  obtain ⟨m1, h1⟩ : ∃ m, (if b1 > a1 then b1 else a1) = m := ⟨_, rfl⟩
  obtain ⟨m2, h2⟩ : ∃ m, (if b2 > a2 then b2 else a2) = m := ⟨_, rfl⟩
  obtain ⟨m3, h3⟩ : ∃ m, (if b3 < a3 then b3 else a3) = m := ⟨_, rfl⟩
  obtain ⟨m4, h4⟩ : ∃ m, (if b4 < a4 then b4 else a4) = m := ⟨_, rfl⟩
  have hm : meetR ⟨a1, a2, a3, a4⟩ ⟨b1, b2, b3, b4⟩ = ⟨m1, m2, m3, m4⟩ := by
    unfold meetR
    rw [← h1, ← h2, ← h3, ← h4]
    congr 1 <;> (simp only []; split <;> omega)
  have hmeets : meets ⟨a1, a2, a3, a4⟩ ⟨b1, b2, b3, b4⟩ = (checkB ⟨a1, a2, a3, a4⟩ && checkB ⟨b1, b2, b3, b4⟩ && checkB ⟨m1, m2, m3, m4⟩) := by unfold meets; rw [hm]
  have hmeetS : meetS ⟨a1, a2, a3, a4⟩ ⟨b1, b2, b3, b4⟩ = if meets ⟨a1, a2, a3, a4⟩ ⟨b1, b2, b3, b4⟩ = true then ⟨m1, m2, m3, m4⟩ else R4.zero := by unfold meetS; rw [hm]
  have HME := Lib.hid hmeets
  have HMS := Lib.hid hmeetS
  clear hm hmeets hmeetS
  go_enter Tryd.func37, Tryd.ntmps37
  have hb0 : Below w.heap.size w ((((w.alloc (.cells #[.int .i64 a1, .int .i64 a2, .int .i64 a3, .int .i64 a4] 38)).alloc (.cells #[.int .i64 b1, .int .i64 b2, .int .i64 b3, .int .i64 b4] 38)).alloc (.cells #[.int .i64 0, .int .i64 0, .int .i64 0, .int .i64 0] 38)).alloc (.cells #[.int .i64 m1, .int .i64 m2, .int .i64 m3, .int .i64 m4] 38)) := (((((Below.refl _ _).alloc (Nat.le_refl _) _).alloc (by simp; try omega) _).alloc (by simp; try omega) _).alloc (by simp; try omega) _)
  have K3' : Blk ((((w.alloc (.cells #[.int .i64 a1, .int .i64 a2, .int .i64 a3, .int .i64 a4] 38)).alloc (.cells #[.int .i64 b1, .int .i64 b2, .int .i64 b3, .int .i64 b4] 38)).alloc (.cells #[.int .i64 0, .int .i64 0, .int .i64 0, .int .i64 0] 38)).alloc (.cells #[.int .i64 m1, .int .i64 m2, .int .i64 m3, .int .i64 m4] 38)) (w.heap.size + 1 + 1 + 1) 38 #[.int .i64 m1, .int .i64 m2, .int .i64 m3, .int .i64 m4] := by
    have := (Blk.new (((w.alloc (.cells #[.int .i64 a1, .int .i64 a2, .int .i64 a3, .int .i64 a4] 38)).alloc (.cells #[.int .i64 b1, .int .i64 b2, .int .i64 b3, .int .i64 b4] 38)).alloc (.cells #[.int .i64 0, .int .i64 0, .int .i64 0, .int .i64 0] 38)) 38 #[.int .i64 m1, .int .i64 m2, .int .i64 m3, .int .i64 m4])
    simpa using this
  have K2' : Blk ((((w.alloc (.cells #[.int .i64 a1, .int .i64 a2, .int .i64 a3, .int .i64 a4] 38)).alloc (.cells #[.int .i64 b1, .int .i64 b2, .int .i64 b3, .int .i64 b4] 38)).alloc (.cells #[.int .i64 0, .int .i64 0, .int .i64 0, .int .i64 0] 38)).alloc (.cells #[.int .i64 m1, .int .i64 m2, .int .i64 m3, .int .i64 m4] 38)) (w.heap.size + 1 + 1) 38 #[.int .i64 0, .int .i64 0, .int .i64 0, .int .i64 0] := by
    have := ((Blk.new ((w.alloc (.cells #[.int .i64 a1, .int .i64 a2, .int .i64 a3, .int .i64 a4] 38)).alloc (.cells #[.int .i64 b1, .int .i64 b2, .int .i64 b3, .int .i64 b4] 38)) 38 #[.int .i64 0, .int .i64 0, .int .i64 0, .int .i64 0]).alloc (.cells #[.int .i64 m1, .int .i64 m2, .int .i64 m3, .int .i64 m4] 38))
    simpa using this
  have K1' : Blk ((((w.alloc (.cells #[.int .i64 a1, .int .i64 a2, .int .i64 a3, .int .i64 a4] 38)).alloc (.cells #[.int .i64 b1, .int .i64 b2, .int .i64 b3, .int .i64 b4] 38)).alloc (.cells #[.int .i64 0, .int .i64 0, .int .i64 0, .int .i64 0] 38)).alloc (.cells #[.int .i64 m1, .int .i64 m2, .int .i64 m3, .int .i64 m4] 38)) (w.heap.size + 1) 38 #[.int .i64 b1, .int .i64 b2, .int .i64 b3, .int .i64 b4] := by
    have := (((Blk.new (w.alloc (.cells #[.int .i64 a1, .int .i64 a2, .int .i64 a3, .int .i64 a4] 38)) 38 #[.int .i64 b1, .int .i64 b2, .int .i64 b3, .int .i64 b4]).alloc (.cells #[.int .i64 0, .int .i64 0, .int .i64 0, .int .i64 0] 38)).alloc (.cells #[.int .i64 m1, .int .i64 m2, .int .i64 m3, .int .i64 m4] 38))
    simpa using this
  have hz0 : w.heap.size + 1 + 1 + 1 < ((((w.alloc (.cells #[.int .i64 a1, .int .i64 a2, .int .i64 a3, .int .i64 a4] 38)).alloc (.cells #[.int .i64 b1, .int .i64 b2, .int .i64 b3, .int .i64 b4] 38)).alloc (.cells #[.int .i64 0, .int .i64 0, .int .i64 0, .int .i64 0] 38)).alloc (.cells #[.int .i64 m1, .int .i64 m2, .int .i64 m3, .int .i64 m4] 38)).heap.size := by simp
  have HB' := Lib.hid hb0
  have HK1 := Lib.hid K1'
  have HK2 := Lib.hid K2'
  have HK3 := Lib.hid K3'
  clear hb0 K1' K2' K3'
  go_wp2_with fail
  generalize ((((w.alloc (.cells #[.int .i64 a1, .int .i64 a2, .int .i64 a3, .int .i64 a4] 38)).alloc (.cells #[.int .i64 b1, .int .i64 b2, .int .i64 b3, .int .i64 b4] 38)).alloc (.cells #[.int .i64 0, .int .i64 0, .int .i64 0, .int .i64 0] 38)).alloc (.cells #[.int .i64 m1, .int .i64 m2, .int .i64 m3, .int .i64 m4] 38)) = W0 at HB' HK1 HK2 HK3 hz0 ⊢
  clear h1 h2 h3 h4
  have K1' := HK1.out
  have K2' := HK2.out
  have K3' := HK3.out
  clear HK1 HK2 HK3
  refine (ref_Check _ _ _ _ _).mono ?_
  rintro e w1 ⟨rfl, hb⟩
  have K1 := K1'.below hb (by omega)
  have K2 := K2'.below hb (by omega)
  have K3 := K3'.below hb (by omega)
  have hz := hb.size
  have hz' : w.heap.size + 1 + 1 + 1 < w1.heap.size := by omega
  have HB := Lib.hid (below_step HB'.out hb)
  clear hb hz HB' K1' K2' K3' hz0
  have K1' := K1
  have K2' := K2
  have K3' := K3
  have HB' := HB
  have hz0 := hz'
  clear K1 K2 K3 HB hz'
  have b0c := K1'.cell 0
  have b1c := K1'.cell 1
  have b2c := K1'.cell 2
  have b3c := K1'.cell 3
  simp only [List.getElem?_toArray, List.getElem?_cons_zero, List.getElem?_cons_succ] at b0c b1c b2c b3c
  have c0 := K3'.cell 0
  have c1 := K3'.cell 1
  have c2 := K3'.cell 2
  have c3 := K3'.cell 3
  simp only [List.getElem?_toArray, List.getElem?_cons_zero, List.getElem?_cons_succ] at c0 c1 c2 c3
  have d0 := K2'.cell 0
  have fd0 := K2'.frozen 0
  have d1 := K2'.cell 1
  have fd1 := K2'.frozen 1
  have d2 := K2'.cell 2
  have fd2 := K2'.frozen 2
  have d3 := K2'.cell 3
  have fd3 := K2'.frozen 3
  simp only [List.getElem?_toArray, List.getElem?_cons_zero, List.getElem?_cons_succ] at d0 d1 d2 d3
  have HK1 := Lib.hid K1'
  have HK2 := Lib.hid K2'
  have HK3 := Lib.hid K3'
  clear K1' K2' K3'
  have hv1 : checkE ⟨a1, a2, a3, a4⟩ = if checkB ⟨a1, a2, a3, a4⟩ = true then 0 else 3 := rfl
  cases ha : checkB ⟨a1, a2, a3, a4⟩
  · rw [ha] at hv1
    rw [hv1]
    have HA := Lib.hid ha
    clear ha hv1 HK1 HK2 HK3
    go_wp2_with fail
    try simp only [Exit.inBlock, Exit.then]
    refine bodyPost_ret (v := .tuple #[.agg #[.int .i64 0, .int .i64 0, .int .i64 0, .int .i64 0], .bool false]) (by simp [results, Tryd.results37, go_sem, d0, d1, d2, d3]) rfl ⟨?_, ((((HB'.out.setCell (by show w.heap.size ≤ w.heap.size + 1 + 1; omega) _).setCell (by show w.heap.size ≤ w.heap.size + 1 + 1; omega) _).setCell (by show w.heap.size ≤ w.heap.size + 1 + 1; omega) _).setCell (by show w.heap.size ≤ w.heap.size + 1 + 1; omega) _)⟩
    rw [HMS.out, HME.out, HA.out]
    try rfl
  · rw [ha] at hv1
    rw [hv1]
    have HA := Lib.hid ha
    clear ha hv1
    go_wp2_with fail
    clear b0c b1c b2c b3c c0 c1 c2 c3 d0 d1 d2 d3 fd0 fd1 fd2 fd3
    have K1' := HK1.out
    have K2' := HK2.out
    have K3' := HK3.out
    clear HK1 HK2 HK3
    refine (ref_Check _ _ _ _ _).mono ?_
    rintro e w2 ⟨rfl, hb⟩
    have K1 := K1'.below hb (by omega)
    have K2 := K2'.below hb (by omega)
    have K3 := K3'.below hb (by omega)
    have hz := hb.size
    have hz' : w.heap.size + 1 + 1 + 1 < w2.heap.size := by omega
    have HB := Lib.hid (below_step HB'.out hb)
    clear hb hz HB' K1' K2' K3' hz0
    have K1' := K1
    have K2' := K2
    have K3' := K3
    have HB' := HB
    have hz0 := hz'
    clear K1 K2 K3 HB hz'
    have b0c := K1'.cell 0
    have b1c := K1'.cell 1
    have b2c := K1'.cell 2
    have b3c := K1'.cell 3
    simp only [List.getElem?_toArray, List.getElem?_cons_zero, List.getElem?_cons_succ] at b0c b1c b2c b3c
    have c0 := K3'.cell 0
    have c1 := K3'.cell 1
    have c2 := K3'.cell 2
    have c3 := K3'.cell 3
    simp only [List.getElem?_toArray, List.getElem?_cons_zero, List.getElem?_cons_succ] at c0 c1 c2 c3
    have d0 := K2'.cell 0
    have fd0 := K2'.frozen 0
    have d1 := K2'.cell 1
    have fd1 := K2'.frozen 1
    have d2 := K2'.cell 2
    have fd2 := K2'.frozen 2
    have d3 := K2'.cell 3
    have fd3 := K2'.frozen 3
    simp only [List.getElem?_toArray, List.getElem?_cons_zero, List.getElem?_cons_succ] at d0 d1 d2 d3
    have HK1 := Lib.hid K1'
    have HK2 := Lib.hid K2'
    have HK3 := Lib.hid K3'
    clear K1' K2' K3'
    have hv1 : checkE ⟨b1, b2, b3, b4⟩ = if checkB ⟨b1, b2, b3, b4⟩ = true then 0 else 3 := rfl
    cases ha : checkB ⟨b1, b2, b3, b4⟩
    · rw [ha] at hv1
      rw [hv1]
      have HA2 := Lib.hid ha
      clear ha hv1 HK1 HK2 HK3
      go_wp2_with fail
      try simp only [Exit.inBlock, Exit.then]
      refine bodyPost_ret (v := .tuple #[.agg #[.int .i64 0, .int .i64 0, .int .i64 0, .int .i64 0], .bool false]) (by simp [results, Tryd.results37, go_sem, d0, d1, d2, d3]) rfl ⟨?_, ((((HB'.out.setCell (by show w.heap.size ≤ w.heap.size + 1 + 1; omega) _).setCell (by show w.heap.size ≤ w.heap.size + 1 + 1; omega) _).setCell (by show w.heap.size ≤ w.heap.size + 1 + 1; omega) _).setCell (by show w.heap.size ≤ w.heap.size + 1 + 1; omega) _)⟩
      rw [HMS.out, HME.out, HA.out, HA2.out]
      try rfl
    · rw [ha] at hv1
      rw [hv1]
      have HA2 := Lib.hid ha
      clear ha hv1
      go_wp2_with fail
      clear b0c b1c b2c b3c c0 c1 c2 c3 d0 d1 d2 d3 fd0 fd1 fd2 fd3
      have K1' := HK1.out
      have K2' := HK2.out
      have K3' := HK3.out
      clear HK1 HK2 HK3
      refine (ref_Check _ _ _ _ _).mono ?_
      rintro e w3 ⟨rfl, hb⟩
      have K1 := K1'.below hb (by omega)
      have K2 := K2'.below hb (by omega)
      have K3 := K3'.below hb (by omega)
      have hz := hb.size
      have hz' : w.heap.size + 1 + 1 + 1 < w3.heap.size := by omega
      have HB := Lib.hid (below_step HB'.out hb)
      clear hb hz HB' K1' K2' K3' hz0
      have K1' := K1
      have K2' := K2
      have K3' := K3
      have HB' := HB
      have hz0 := hz'
      clear K1 K2 K3 HB hz'
      have b0c := K1'.cell 0
      have b1c := K1'.cell 1
      have b2c := K1'.cell 2
      have b3c := K1'.cell 3
      simp only [List.getElem?_toArray, List.getElem?_cons_zero, List.getElem?_cons_succ] at b0c b1c b2c b3c
      have c0 := K3'.cell 0
      have c1 := K3'.cell 1
      have c2 := K3'.cell 2
      have c3 := K3'.cell 3
      simp only [List.getElem?_toArray, List.getElem?_cons_zero, List.getElem?_cons_succ] at c0 c1 c2 c3
      have d0 := K2'.cell 0
      have fd0 := K2'.frozen 0
      have d1 := K2'.cell 1
      have fd1 := K2'.frozen 1
      have d2 := K2'.cell 2
      have fd2 := K2'.frozen 2
      have d3 := K2'.cell 3
      have fd3 := K2'.frozen 3
      simp only [List.getElem?_toArray, List.getElem?_cons_zero, List.getElem?_cons_succ] at d0 d1 d2 d3
      have HK1 := Lib.hid K1'
      have HK2 := Lib.hid K2'
      have HK3 := Lib.hid K3'
      clear K1' K2' K3'
      have hv1 : checkE ⟨m1, m2, m3, m4⟩ = if checkB ⟨m1, m2, m3, m4⟩ = true then 0 else 3 := rfl
      cases ha : checkB ⟨m1, m2, m3, m4⟩
      · rw [ha] at hv1
        rw [hv1]
        have HA3 := Lib.hid ha
        clear ha hv1 HK1 HK2 HK3
        go_wp2_with fail
        try simp only [Exit.inBlock, Exit.then]
        refine bodyPost_ret (v := .tuple #[.agg #[.int .i64 0, .int .i64 0, .int .i64 0, .int .i64 0], .bool false]) (by simp [results, Tryd.results37, go_sem, d0, d1, d2, d3]) rfl ⟨?_, ((((HB'.out.setCell (by show w.heap.size ≤ w.heap.size + 1 + 1; omega) _).setCell (by show w.heap.size ≤ w.heap.size + 1 + 1; omega) _).setCell (by show w.heap.size ≤ w.heap.size + 1 + 1; omega) _).setCell (by show w.heap.size ≤ w.heap.size + 1 + 1; omega) _)⟩
        rw [HMS.out, HME.out, HA.out, HA2.out, HA3.out]
        try rfl
      · rw [ha] at hv1
        rw [hv1]
        have HA3 := Lib.hid ha
        clear ha hv1 HK1 HK2 HK3
        go_wp2_with fail
        try simp only [Exit.inBlock, Exit.then]
        refine bodyPost_ret (v := .tuple #[.agg #[.int .i64 m1, .int .i64 m2, .int .i64 m3, .int .i64 m4], .bool true]) (by simp [results, Tryd.results37, go_sem, d0, d1, d2, d3]) rfl ⟨?_, ((((HB'.out.setCell (by show w.heap.size ≤ w.heap.size + 1 + 1; omega) _).setCell (by show w.heap.size ≤ w.heap.size + 1 + 1; omega) _).setCell (by show w.heap.size ≤ w.heap.size + 1 + 1; omega) _).setCell (by show w.heap.size ≤ w.heap.size + 1 + 1; omega) _)⟩
        rw [HMS.out, HME.out, HA.out, HA2.out, HA3.out]
        try rfl
end Go.Proofs.YtkdabfepggehiaaDoor
