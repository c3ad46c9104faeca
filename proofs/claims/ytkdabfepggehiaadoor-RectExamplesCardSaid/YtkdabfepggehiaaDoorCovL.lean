/- The walk of the law RectCovers. -/
import Derived.Test.YtkdabfepggehiaaDoorCovR
import Derived.Test.YtkdabfepggehiaaDoorRectK
namespace Go.Proofs.YtkdabfepggehiaaDoor
open Go.RowKit

def rowR (f : Nat → Nat → Int) (i : Nat) : R4 := ⟨f i 0, f i 1, f i 2, f i 3⟩
theorem rects_of_rows {w : World} {B n : Nat} {a : Option Addr} {f : Nat → Nat → Int} (h : IsRows 4 w B a n fun i j => .int .i64 (f i j)) : IsRects w B a n (rowR f) := by
  intro h0
  obtain ⟨ad, e, hb, hc⟩ := h h0
  refine ⟨ad, e, hb, fun i j hi hj => (hc i j hi hj).trans ?_⟩
  match j, hj with
  | 0, _ => rfl
  | 1, _ => rfl
  | 2, _ => rfl
  | 3, _ => rfl
theorem rects_congr {w : World} {B n : Nat} {a : Option Addr} {f g : Nat → R4} (h : IsRects w B a n f) (hfg : ∀ i, i < n → f i = g i) : IsRects w B a n g := by
  intro h0
  obtain ⟨ad, e, hb, hc⟩ := h h0
  exact ⟨ad, e, hb, fun i j hi hj => by have := hc i j hi hj; simp only [hfg i hi] at this; exact this⟩
theorem listR_get (f : Nat → R4) (n i : Nat) (h : i < n) : (listR f n).getD i R4.zero = f i := by
  unfold listR
  rw [List.getD_eq_getElem?_getD, List.getElem?_map, List.getElem?_range h]; rfl
theorem rects_read {w : World} {B n : Nat} {ad : Addr} {f : Nat → R4} (h : IsRects w B (some ad) n f) : ∀ (j : Nat) u, (rcells (listR f n))[j]? = some u → w.cell? (ad.add j) = some u := by
  intro j u hu
  have hj := (List.getElem?_eq_some_iff.1 hu).1
  rw [rcells_len, listR_len] at hj
  obtain ⟨ad', e, _, hc⟩ := h (by omega)
  obtain rfl := Option.some.inj e
  have h2 := rcells_at (listR f n) R4.zero (j / 4) (j % 4) (by rw [listR_len]; omega) (by omega)
  rw [listR_get f n _ (by omega), show j / 4 * 4 + j % 4 = j from by omega, hu] at h2
  have h3 := hc (j / 4) (j % 4) (by omega) (by omega)
  rw [show j / 4 * 4 + j % 4 = j from by omega] at h3
  rw [h3, h2]
/-- a copy: everything appended to an empty slice -/
theorem append_copy {W : World} {n c b : Nat} {a : Option Addr} {f : Nat → R4} (h : IsRects W W.heap.size a n f) (hn : n ≤ 64) :
    ∃ a' c' W', (Builtin.append_ #[57, 57] 57 #[.slice (some ⟨b, 0, none⟩) 0 0, .slice a n c]).run Tryd.prog W = .ok (.slice a' n c') W' ∧ IsRects W' W'.heap.size a' n f ∧ Below W.heap.size W W' := by
  obtain ⟨i0, hi0, hz0, hz1, hzb⟩ := info_parts info_rect
  by_cases h0 : n = 0
  · subst h0
    have hsrc : Src Tryd.prog 4 57 (.slice a 0 c) 0 [] W := by
      cases a with
      | none => exact Src.ofNil W Tryd.underlying57 c
      | some ad => exact Src.ofSlice W Tryd.underlying57 ad 0 c [] rfl (fun j u hu => by simp at hu) (fun u hu => by simp at hu)
    have hr := run_append_room_src (P := Tryd.prog) W 57 57 57 38 i0 Tryd.underlying57 hi0 b 0 0 0 (.slice a 0 c) 0 [] (by rw [hz1]; exact hsrc) (by omega) (fun j hj => by simp at hj) (fun j hj => by simp at hj)
    exact ⟨_, _, _, hr, fun h => absurd h (by omega), Below.refl _ _⟩
  · obtain ⟨ad, rfl, _, _⟩ := h (by omega)
    obtain ⟨v', W1, hr2, ho, hg⟩ := run_append_arg_grows (P := Tryd.prog) W 57 57 38 i0 _ 4 32 Tryd.underlying57 hi0 hz0 hz1 hzb rfl (by omega) ⟨b, 0, none⟩ 0 0 [] rfl (fun j u hu => by simp at hu) ad n c (rcells (listR f n)) (by rw [rcells_len, listR_len]) (rects_read h) (by omega) (by unfold maxLen; omega) (by omega)
    rw [List.nil_append, Nat.zero_add] at ho
    obtain ⟨a9, c9, rfl, hI, _⟩ := own_rects (l := listR f n) (by rw [listR_len]; exact ho)
    rw [listR_len] at hI hr2
    refine ⟨a9, c9, W1, by simpa using hr2, rects_congr hI fun i hi => listR_get f n i hi, ⟨hg.os, hg.tape, hg.output, hg.size, fun k hk => hg.block k hk (by simp)⟩⟩
attribute [local irreducible] coversS listR
set_option maxRecDepth 100000 in
set_option maxHeartbeats 4000000 in
theorem RectCovers_walk (r1 r2 r3 r4 : Int) (a : Option Addr) (n c : Nat) (f1 : Nat → Nat → Int) (w : World) (_ : (Lit.int .i64 r1).wf = true) (_ : (Lit.int .i64 r2).wf = true) (_ : (Lit.int .i64 r3).wf = true) (_ : (Lit.int .i64 r4).wf = true)
    (hn : n ≤ maxLen) (wr : IsRows 4 w w.heap.size a n fun i j => .int .i64 (f1 i j)) (_ : ∀ i j, (Lit.int .i64 (f1 i j)).wf = true)
    (hL : laidMetH Tryd.prog Rows.rectCoversRow.laid w) (_ : w.ShapedOpen Tryd.prog) :
    Calls Tryd.prog 12 #[.agg #[.int .i64 r1, .int .i64 r2, .int .i64 r3, .int .i64 r4], .slice a n c] w fun e w' => e = .returned (.bool true) ∧ Below w.heap.size w w' := by
  have HP := Lib.hid (pow_of_laid hL (by kernel_rfl))
  have hr := rects_of_rows wr
  generalize rowR f1 = f at hr
  have H0 := Lib.hid (((Ok.start w).add (kRects w.heap.size a n f) ⟨hr, Nat.le_refl _⟩).alloc w.heap.size 38 [.int .i64 r1, .int .i64 r2, .int .i64 r3, .int .i64 r4] rfl)
  clear hL hr wr
  unfold maxLen at hn
  by_cases h24 : (n : Int) > 24
  · go_enter Tryd.func12, Tryd.ntmps12
    go_wp2_with fail
    refine (rect_known _ (HP.out.below H0.out.bel)).mono ?_
    rintro e w1 ⟨rfl, hb1⟩
    have HB1 := Lib.hid (below_step H0.out.bel hb1)
    clear hb1 H0
    go_wp2_with fail
    go_ret
    exact ⟨rfl, HB1.out⟩
  have hn64 : n ≤ 64 := by omega
  have H1 := Lib.hid (H0.out.alloc_obj (.cells #[] 38))
  obtain ⟨a7, c7, w7, hr7, hI7, hb7⟩ := append_copy (b := w.heap.size + 1) (c := c) (((H1.out.get (kRects w.heap.size a n f) (by simp)).1).below (Below.refl _ _) H1.out.bel.size) hn64
  have H7 := Lib.hid ((H1.out.below hb7).add (kRects w7.heap.size a7 n f) ⟨hI7, Nat.le_refl _⟩)
  have F0 := H0.out.sees
  simp only [sees, kBlk, cellsAt, Nat.reduceAdd] at F0
  obtain ⟨⟨z0, c0, c1, c2, c3, -⟩, -⟩ := F0
  clear hI7 hb7 H1
  have F7 := H7.out.sees
  simp only [sees, kBlk, cellsAt, Nat.reduceAdd] at F7
  obtain ⟨-, ⟨y0, b0, b1, b2, b3, -⟩, -⟩ := F7
  go_enter Tryd.func12, Tryd.ntmps12
  go_wp2_with (at_builtin; refine wpList_run rfl _ _ _ rfl _ _ rfl rfl hr7 ?_; clear hr7)
  clear z0 c0 c1 c2 c3 H0
  refine (rect_Covers r1 r2 r3 r4 a7 n c7 f _ hn64 (((H7.out.get (kRects w7.heap.size a7 n f) (by simp)).1))).mono ?_
  rintro e w8 ⟨rfl, hb8⟩
  have H8 := Lib.hid (H7.out.below hb8)
  clear hb8 y0 b0 b1 b2 b3 H7
  have F8 := H8.out.sees
  simp only [sees, kBlk, cellsAt, Nat.reduceAdd] at F8
  obtain ⟨-, ⟨z0, c0, c1, c2, c3, -⟩, -⟩ := F8
  generalize hcs : coversS ⟨r1, r2, r3, r4⟩ f n = cs
  obtain ⟨cs1, cs2⟩ := cs
  have HCS := keep hcs
  clear hcs
  go_wp2_with fail
  refine (ref_Covers r1 r2 r3 r4 a n c f _ hn64 (((H8.out.get (kRects w.heap.size a n f) (by simp)).1).below (Below.refl _ _) H8.out.bel.size)).mono ?_
  rintro e w9 ⟨rfl, hb9⟩
  have H9 := Lib.hid (H8.out.below hb9)
  clear hb9 z0 c0 c1 c2 c3 H8
  rw [HCS.out]
  go_wp2_with fail
  refine (equal_rects a7 a n c7 c f _ (by omega) (((H9.out.get (kRects w7.heap.size a7 n f) (by simp)).1).below (Below.refl _ _) (by have h9 := (H9.out.get (kRects w7.heap.size a7 n f) (by simp)).2; exact h9)) (((H9.out.get (kRects w.heap.size a n f) (by simp)).1).below (Below.refl _ _) H9.out.bel.size)).mono ?_
  rintro e w10 ⟨rfl, hb10⟩
  have HB10 := Lib.hid (below_step H9.out.bel hb10)
  clear hb10 H9
  go_wp2_with fail
  go_ret
  exact ⟨rfl, HB10.out⟩
end Go.Proofs.YtkdabfepggehiaaDoor
