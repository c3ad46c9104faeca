/- The contract of rect.Covers. Condition: at most 64 ranges, which read as f. -/
import Derived.Test.YtkdabfepggehiaaDoorCovA
import Derived.Test.YtkdabfepggehiaaDoorCovP
import Derived.Test.YtkdabfepggehiaaDoorRects
import Derived.IntWalk
namespace Go.Proofs.YtkdabfepggehiaaDoor
open Go.RowKit

def listR (f : Nat → R4) (n : Nat) : List R4 := (List.range n).map f
theorem listR_len (f : Nat → R4) (n : Nat) : (listR f n).length = n := by simp [listR]
theorem listR_succ (f : Nat → R4) (n : Nat) : listR f (n + 1) = listR f n ++ [f n] := by simp [listR, List.range_succ]
theorem listR_all (f : Nat → R4) (n : Nat) : allB f n = true ↔ ∀ x ∈ listR f n, checkB x = true := by
  rw [allB_iff]
  simp [listR]
/-- what is left when the first k ranges have been taken away -/
theorem leftP_succ (r : R4) (f : Nat → R4) (k : Nat) : leftP r (listR f (k + 1)) = cutP (leftP r (listR f k)) (f k) := by
  rw [listR_succ, leftP, List.foldl_append]; rfl
def coversS (r : R4) (f : Nat → R4) (n : Nat) : Bool × Int := if checkB r && allB f n then (coversP r (listR f n), 0) else (false, 3)
theorem coversS_no1 {r : R4} {f : Nat → R4} {n : Nat} (h : checkB r = false) : coversS r f n = (false, 3) := by unfold coversS; rw [h]; rfl
theorem coversS_no2 {r : R4} {f : Nat → R4} {n : Nat} (h : allB f n = false) : coversS r f n = (false, 3) := by unfold coversS; rw [h, Bool.and_false]; rfl
theorem coversS_yes {r : R4} {f : Nat → R4} {n : Nat} (h1 : checkB r = true) (h2 : allB f n = true) : coversS r f n = (coversP r (listR f n), 0) := by unfold coversS; rw [h1, h2]; rfl
theorem rcells_app (K L : List R4) : rcells (K ++ L) = rcells K ++ rcells L := by simp [rcells]
theorem rcells_len (L : List R4) : (rcells L).length = L.length * 4 := by
  induction L with
  | nil => rfl
  | cons a L ih => rw [show rcells (a :: L) = [.int .i64 a.c1, .int .i64 a.r1, .int .i64 a.c2, .int .i64 a.r2] ++ rcells L from rfl, List.length_append, ih]; simp; omega
theorem rcells_one (L : List R4) : ∀ u ∈ rcells L, u.oneCell' = true := by
  intro u hu
  unfold rcells at hu
  obtain ⟨a, _, hu⟩ := List.mem_flatMap.1 hu
  simp at hu
  rcases hu with rfl | rfl | rfl | rfl <;> rfl
theorem rcells_take (L : List R4) (i : Nat) (h : i ≤ L.length) : (rcells L).take (i * 4) = rcells (L.take i) := by
  have e : rcells L = rcells (L.take i) ++ rcells (L.drop i) := by rw [← rcells_app, List.take_append_drop]
  rw [e, List.take_append_of_le_length (by rw [rcells_len, List.length_take]; omega), List.take_of_length_le (by rw [rcells_len, List.length_take]; omega)]
theorem rcells_drop (L : List R4) (i : Nat) (h : i ≤ L.length) : (rcells L).drop (i * 4) = rcells (L.drop i) := by
  have e : rcells L = rcells (L.take i) ++ rcells (L.drop i) := by rw [← rcells_app, List.take_append_drop]
  have hl : (rcells (L.take i)).length = i * 4 := by rw [rcells_len, List.length_take]; omega
  rw [e, List.drop_append_of_le_length (by omega), List.drop_of_length_le (by omega), List.nil_append]
theorem rcells_get (L : List R4) (i : Nat) (a : R4) (h : L[i]? = some a) : (rcells L)[i * 4]? = some (.int .i64 a.c1) ∧ (rcells L)[i * 4 + 1]? = some (.int .i64 a.r1) ∧ (rcells L)[i * 4 + 2]? = some (.int .i64 a.c2) ∧ (rcells L)[i * 4 + 3]? = some (.int .i64 a.r2) := by
  obtain ⟨hi, e⟩ := List.getElem?_eq_some_iff.1 h
  have q := fun j hj => rcells_at L R4.zero i j hi hj
  have e2 : L.getD i R4.zero = a := by rw [List.getD_eq_getElem?_getD, h]; rfl
  rw [e2] at q
  exact ⟨q 0 (by omega), q 1 (by omega), q 2 (by omega), q 3 (by omega)⟩
/-- what stands behind the appends of one round -/
theorem mid_cells (L : List R4) (x a : R4) (i : Nat) (h : L[i]? = some a) :
    (rcells (midP L x (i + 1))).take (i * 4) ++ ((rcells (midP L x (i + 1))).drop ((i + 1) * 4) ++ rcells (restL a x)) = rcells (midP L x i) := by
  have hi := (List.getElem?_eq_some_iff.1 h).1
  have hl : i + 1 ≤ (midP L x (i + 1)).length := by rw [midP_succ L x i a h]; simp; omega
  rw [rcells_take _ _ (by omega), rcells_drop _ _ hl, midP_step L x i a h, midP_succ L x i a h, ← rcells_app, ← rcells_app]
  congr 1
  have h1 : (L.take i).length = i := by rw [List.length_take]; omega
  rw [List.take_append_of_le_length (by omega), List.take_of_length_le (by omega)]
  congr 1
  rw [List.drop_append, List.drop_of_length_le (by omega), h1, show i + 1 - i = 1 from by omega]
  rfl
theorem one_rect {w : World} {b : Nat} {r1 r2 r3 r4 : Int} (h : (kBlk b 38 [.int .i64 r1, .int .i64 r2, .int .i64 r3, .int .i64 r4]).p w) : IsRects w w.heap.size (some ⟨b, 0, none⟩) 1 (fun _ => ⟨r1, r2, r3, r4⟩) := rects_of_blk _ h (fun i j hi hj => by
  obtain rfl : i = 0 := by omega
  match j, hj with
  | 0, _ => rfl
  | 1, _ => rfl
  | 2, _ => rfl
  | 3, _ => rfl)
theorem allB_one (r : R4) : allB (fun _ => r) 1 = checkB r := by simp [allB]
theorem lies_new (W : World) (B : Nat) (r : R4) (h : B ≤ W.heap.size) : Lies (W.alloc (.cells #[.int .i64 r.c1, .int .i64 r.r1, .int .i64 r.c2, .int .i64 r.r2] 38)) B W.heap.size 1 1 (rcells [r]) := by
  have hb := Blk.new W 38 #[.int .i64 r.c1, .int .i64 r.r1, .int .i64 r.c2, .int .i64 r.r2]
  refine ⟨h, hb.lt, Nat.le_refl _, by unfold maxLen; omega, rfl, fun j u hu => ?_, fun j hj => ⟨?_, hb.frozen j⟩⟩
  · rw [hb.cell]; simpa [rcells] using hu
  · rw [hb.cell, Array.getElem?_eq_getElem (by simpa using hj)]; rfl
theorem mid_at (L : List R4) (x a : R4) (i : Nat) (h : L[i]? = some a) : (midP L x (i + 1))[i]? = some a := by
  have hi := (List.getElem?_eq_some_iff.1 h).1
  have h1 : (L.take i).length = i := by rw [List.length_take]; omega
  rw [midP_succ L x i a h, List.getElem?_append_right (by omega), h1]
  simp
theorem mid_len (L : List R4) (x a : R4) (i : Nat) (h : L[i]? = some a) : (midP L x i).length = i + ((midP L x (i + 1)).length - (i + 1) + (restL a x).length) := by
  have hi := (List.getElem?_eq_some_iff.1 h).1
  rw [midP_step L x i a h, midP_succ L x i a h]
  simp only [List.length_append, List.length_take, List.length_cons]
  omega
attribute [local irreducible] rcells midP leftP cutP listR coversP restL
set_option maxRecDepth 100000 in
set_option maxHeartbeats 8000000 in
theorem rect_Covers (r1 r2 r3 r4 : Int) (a : Option Addr) (n c : Nat) (f : Nat → R4) (w : World) (hn : n ≤ 64) (hr : IsRects w w.heap.size a n f) :
    Calls Tryd.prog 48 #[.agg #[.int .i64 r1, .int .i64 r2, .int .i64 r3, .int .i64 r4], .slice a n c] w fun e w' => e = .returned (.tuple #[.bool (coversS ⟨r1, r2, r3, r4⟩ f n).1, .int .i64 (coversS ⟨r1, r2, r3, r4⟩ f n).2]) ∧ Below w.heap.size w w' := by
  have H0 := Lib.hid (((Ok.start w).add (kRects w.heap.size a n f) ⟨hr, Nat.le_refl _⟩).alloc w.heap.size 38 [.int .i64 r1, .int .i64 r2, .int .i64 r3, .int .i64 r4] rfl)
  clear hr
  go_enter Tryd.func48, Tryd.ntmps48
  have F1 := H0.out.sees
  simp only [sees, kBlk, cellsAt, Nat.reduceAdd] at F1
  obtain ⟨⟨z0, c0, c1, c2, c3, -⟩, -⟩ := F1
  go_wp2_with fail
  clear z0 c0 c1 c2 c3
  have H1 := Lib.hid (H0.out.alloc (w.heap.size + 1) 38 [.int .i64 r1, .int .i64 r2, .int .i64 r3, .int .i64 r4] (by simp))
  generalize (w.alloc (.cells #[.int .i64 r1, .int .i64 r2, .int .i64 r3, .int .i64 r4] 38)).alloc (.cells #[.int .i64 r1, .int .i64 r2, .int .i64 r3, .int .i64 r4] 38) = w1 at H1 ⊢
  clear H0
  refine (rect_all _ 1 _ (fun _ => ⟨r1, r2, r3, r4⟩) _ (by decide) (one_rect (H1.out.get (kBlk (w.heap.size + 1) 38 [.int .i64 r1, .int .i64 r2, .int .i64 r3, .int .i64 r4]) (by simp)))).mono ?_
  rintro e w2 ⟨rfl, hb2⟩
  have H2 := Lib.hid (H1.out.tail.below hb2)
  clear H1 hb2
  rw [allB_one]
  cases hc1 : checkB ⟨r1, r2, r3, r4⟩
  · have HC1 := keep hc1
    clear hc1
    go_wp2_with fail
    go_ret2
    rw [coversS_no1 HC1.out]
    exact ⟨rfl, H2.out.bel⟩
  have HC1 := keep hc1
  clear hc1
  have F2 := H2.out.sees
  simp only [sees, kBlk, cellsAt, Nat.reduceAdd] at F2
  obtain ⟨⟨z0, c0, c1, c2, c3, -⟩, -⟩ := F2
  go_wp2_with fail
  refine (rect_all a n c f _ (by omega) (((H2.out.get (kRects w.heap.size a n f) (by simp)).1).below (Below.refl _ _) (H2.out.bel.size))).mono ?_
  rintro e w3 ⟨rfl, hb3⟩
  have H3 := Lib.hid (H2.out.below hb3)
  clear H2 hb3 z0 c0 c1 c2 c3
  cases hc2 : allB f n
  · have HC2 := keep hc2
    clear hc2
    go_wp2_with fail
    go_ret2
    rw [coversS_no2 HC2.out]
    exact ⟨rfl, H3.out.bel⟩
  have HC2 := keep hc2
  have HLA := keep ((listR_all f n).1 hc2)
  have HAF := keep ((allB_iff f n).1 hc2)
  clear hc2
  have F3 := H3.out.sees
  simp only [sees, kBlk, cellsAt, Nat.reduceAdd] at F3
  obtain ⟨⟨z0, c0, c1, c2, c3, -⟩, -⟩ := F3
  go_wp2_with fail
  have hl0 : Lies (w3.alloc (.cells #[.int .i64 r1, .int .i64 r2, .int .i64 r3, .int .i64 r4] 38)) w.heap.size w3.heap.size 1 1 (rcells (leftP ⟨r1, r2, r3, r4⟩ (listR f 0))) := by
    rw [show leftP ⟨r1, r2, r3, r4⟩ (listR f 0) = [⟨r1, r2, r3, r4⟩] from by unfold leftP listR; rfl]
    exact lies_new w3 w.heap.size ⟨r1, r2, r3, r4⟩ H3.out.bel.size
  have H4 := Lib.hid (H3.out.tail.below ((Below.refl _ _).alloc (Nat.le_refl _) (.cells #[.int .i64 r1, .int .i64 r2, .int .i64 r3, .int .i64 r4] 38)))
  have HL0 := Lib.hid hl0
  clear hl0 H3 z0 c0 c1 c2 c3
  generalize w3.alloc (.cells #[.int .i64 r1, .int .i64 r2, .int .i64 r3, .int .i64 r4] 38) = w4 at H4 HL0 ⊢
  generalize w3.heap.size = g0 at HL0 ⊢
  clear w3
  go_loopw [6, 23] (fun lv kv wr => ∃ (k g nL cL : Nat), k ≤ n ∧ kv = .int .i64 k ∧ lv = .slice (some ⟨g, 0, none⟩) nL cL ∧ Keep (nL = (leftP ⟨r1, r2, r3, r4⟩ (listR f k)).length) ∧ Hid (Ok w [kRects w.heap.size a n f] wr) ∧ Hid (Lies wr w.heap.size g nL cL (rcells (leftP ⟨r1, r2, r3, r4⟩ (listR f k))))) (fun _ kv _ => n - (intOf kv).toNat)
  case atStart => exact ⟨0, g0, 1, 1, by omega, rfl, rfl, keep (by unfold leftP listR; rfl), H4, HL0⟩
  case round =>
    obtain ⟨k, g, nL, cL, hk, rfl, rfl, HN, H, HL⟩ := hrel
    by_cases hlt : (k : Int) < n
    · obtain ⟨xb, xo, rfl, hc⟩ := rects_cells (H.out.get _ (List.mem_cons_self ..)) k (by omega)
      have HX := Lib.hid (H.out.add _ hc)
      have hfx := HAF.out k (by omega)
      have HS := keep (leftP_succ ⟨r1, r2, r3, r4⟩ f k)
      have HF := keep (left_fits ⟨r1, r2, r3, r4⟩ (listR f k) HC1.out (fun x hx => by
        unfold listR at hx
        obtain ⟨i, hi, rfl⟩ := List.mem_map.1 hx
        exact HAF.out i (by have := List.mem_range.1 hi; omega)))
      clear hc H
      generalize leftP ⟨r1, r2, r3, r4⟩ (listR f k) = L0 at HN HL HS HF
      generalize hfk : f k = x at HX hfx HS
      obtain ⟨x1, x2, x3, x4⟩ := x
      simp only at HX
      have HFX := keep hfx
      clear hfk hfx
      have F5 := HX.out.sees
      simp only [sees, kCells, cellsFrom, Nat.add_zero] at F5
      obtain ⟨⟨zx, d0, d1, d2, d3, -⟩, -⟩ := F5
      have hnl := HF.out.len
      rw [← HN.out] at hnl
      have hcl := HL.out.cm
      have hnc := HL.out.nc
      unfold maxLen at hcl
      go_wp2_with fail
      have HB := Lib.hid ((HX.out.tail).alloc wr.heap.size 38 [.int .i64 x1, .int .i64 x2, .int .i64 x3, .int .i64 x4] rfl)
      have HL1 := Lib.hid (HL.out.below ((Below.refl _ _).alloc (Nat.le_refl _) (.cells #[.int .i64 x1, .int .i64 x2, .int .i64 x3, .int .i64 x4] 38)))
      have HG := keep (show wr.heap.size ≠ g from fun e => by have := HL.out.lt; omega)
      clear HX HL zx d0 d1 d2 d3
      generalize wr.alloc (.cells #[.int .i64 x1, .int .i64 x2, .int .i64 x3, .int .i64 x4] 38) = w5 at HB HL1 ⊢
      generalize wr.heap.size = bx at HB HG ⊢
      clear wr
      go_loopw [6, 9] (fun lv iv wr => ∃ (j g nL cL : Nat), j ≤ L0.length ∧ iv = .int .i64 ((j : Int) - 1) ∧ lv = .slice (some ⟨g, 0, none⟩) nL cL ∧ Keep (nL = (midP L0 ⟨x1, x2, x3, x4⟩ j).length) ∧ Keep (bx ≠ g) ∧ Hid (Ok w [kBlk bx 38 [.int .i64 x1, .int .i64 x2, .int .i64 x3, .int .i64 x4], kRects w.heap.size (some ⟨xb, xo, none⟩) n f] wr) ∧ Hid (Lies wr w.heap.size g nL cL (rcells (midP L0 ⟨x1, x2, x3, x4⟩ j)))) (fun _ iv _ => (intOf iv + 1).toNat)
      case atStart => exact ⟨L0.length, g, nL, cL, Nat.le_refl _, by rw [HN.out], rfl, keep (by rw [midP_all]; exact HN.out), HG, HB, by rw [midP_all]; exact HL1⟩
      case round =>
        obtain ⟨j, g, nL, cL, hj, rfl, rfl, HN, HG, HB, HL⟩ := hrel
        cases j with
        | zero =>
          rw [show ((0 : Nat) : Int) - 1 = -1 from rfl]
          go_wp2_with fail
          exact ⟨⟨k + 1, g, nL, cL, by omega, by go_num, rfl, keep (by rw [HS.out, ← midP_zero]; exact HN.out), Lib.hid HB.out.tail, by rw [HS.out, ← midP_zero]; exact HL⟩, by simp [intOf]; omega⟩
        | succ i =>
          rw [show ((i + 1 : Nat) : Int) - 1 = (i : Int) from by omega]
          obtain ⟨av, hav⟩ : ∃ av, L0[i]? = some av := ⟨_, List.getElem?_eq_getElem (by omega)⟩
          have hmid := mid_len L0 ⟨x1, x2, x3, x4⟩ av i hav
          have hml := (midP_fits HF.out HFX.out (i + 1)).len
          have hml2 := (midP_fits HF.out HFX.out i).len
          have hil : i < (midP L0 ⟨x1, x2, x3, x4⟩ (i + 1)).length := (List.getElem?_eq_some_iff.1 (mid_at L0 ⟨x1, x2, x3, x4⟩ av i hav)).1
          have hgc := rcells_get _ _ _ (mid_at L0 ⟨x1, x2, x3, x4⟩ av i hav)
          have hmc := mid_cells L0 ⟨x1, x2, x3, x4⟩ av i hav
          have hca := HF.out.each av (List.mem_of_getElem? hav)
          obtain ⟨a1, a2, a3, a4⟩ := av
          simp only at hgc
          have e1 := HL.out.at_ _ _ hgc.1
          have e2 := HL.out.at_ _ _ hgc.2.1
          have e3 := HL.out.at_ _ _ hgc.2.2.1
          have e4 := HL.out.at_ _ _ hgc.2.2.2
          have F6 := HB.out.sees
          simp only [sees, kBlk, cellsAt, Nat.reduceAdd] at F6
          obtain ⟨⟨zb, d0, d1, d2, d3, -⟩, -⟩ := F6
          rw [← HN.out] at hil hml hmid
          have hnc := HL.out.nc
          have hcl := HL.out.cm
          have hgl := HL.out.lt
          unfold maxLen at hcl
          have HMID := keep hmid
          have HMC := keep hmc
          have HCA := keep hca
          have HML := keep hml2
          have hic : (i : Int) < cL := by omega
          have hin : (i : Int) < nL := by omega
          clear hmid hmc hca hml2 hav hgc
          have hih : (i : Int) + 1 ≤ cL := by omega
          have hin1 : (i : Int) + 1 ≤ nL := by omega
          have hic2 : (i : Int) ≤ cL := by omega
          have hi0 : 0 ≤ (i : Int) + 1 := by omega
          have hiw : IntKind.i64.wrap ((i : Int) + 1) = (i : Int) + 1 := IntWalk.i64_in _ (by omega)
          have hit : ((i : Int) + 1).toNat = i + 1 := by omega
          by_cases hcc : i + 1 = cL
          · subst hcc
            have hii : (i : Int) ≤ (i : Int) + 1 := by omega
            go_wp2_with fail
            refine wp_region_held_drew (S := (fun W => W.cell? ⟨g, i * 4, none⟩ = some (.int .i64 a1) ∧ W.cell? ⟨g, i * 4 + 1, none⟩ = some (.int .i64 a2) ∧ W.cell? ⟨g, i * 4 + 2, none⟩ = some (.int .i64 a3) ∧ W.cell? ⟨g, i * 4 + 3, none⟩ = some (.int .i64 a4) ∧ W.cell? ⟨bx, 0, none⟩ = some (.int .i64 x1) ∧ W.cell? ⟨bx, 1, none⟩ = some (.int .i64 x2) ∧ W.cell? ⟨bx, 2, none⟩ = some (.int .i64 x3) ∧ W.cell? ⟨bx, 3, none⟩ = some (.int .i64 x4))) (by kernel_rfl) ⟨e1, e2, e3, e4, d0, d1, d2, d3⟩ (fun hHeld => ?_)
            refine wpAnyH_take (i := 0) (v := ?vt0_1) rfl (by kernel_rfl) (by kernel_rfl) (by kernel_rfl) (fun _ _ _ h => h) (Or.inl ⟨by rfl, ?hyt0_1⟩) (by assumption) ?restt0_1
            case hyt0_1 => (intro w hSw; obtain ⟨s1, s2, s3, s4, s5, s6, s7, s8⟩ := hSw; go_simp; try with_reducible rfl)
            try simp only [Act.put, List.setIfInBounds_toArray, List.set_cons_zero, List.set_cons_succ, List.getElem_toArray, List.getElem_cons_succ, List.getElem_cons_zero]
            refine wpAnyH_take (i := 1) (v := ?vt1_2) rfl (by kernel_rfl) (by kernel_rfl) (by kernel_rfl) (fun _ _ _ h => h) (Or.inl ⟨by rfl, ?hyt1_2⟩) (by assumption) ?restt1_2
            case hyt1_2 => (intro w hSw; obtain ⟨s1, s2, s3, s4, s5, s6, s7, s8⟩ := hSw; go_simp; try with_reducible rfl)
            try simp only [Act.put, List.setIfInBounds_toArray, List.set_cons_zero, List.set_cons_succ, List.getElem_toArray, List.getElem_cons_succ, List.getElem_cons_zero]
            refine wpAnyH_take (i := 2) (v := ?vt2_3) rfl (by kernel_rfl) (by kernel_rfl) (by kernel_rfl) (fun _ _ _ h => h) (Or.inl ⟨by rfl, ?hyt2_3⟩) (by assumption) ?restt2_3
            case hyt2_3 => (intro w hSw; obtain ⟨s1, s2, s3, s4, s5, s6, s7, s8⟩ := hSw; go_simp; try with_reducible rfl)
            try simp only [Act.put, List.setIfInBounds_toArray, List.set_cons_zero, List.set_cons_succ, List.getElem_toArray, List.getElem_cons_succ, List.getElem_cons_zero]
            refine wpAnyH_take (i := 3) (v := ?vt3_4) rfl (by kernel_rfl) (by kernel_rfl) (by kernel_rfl) (fun _ _ _ h => h) (Or.inl ⟨by rfl, ?hyt3_4⟩) (by assumption) ?restt3_4
            case hyt3_4 => (intro w hSw; obtain ⟨s1, s2, s3, s4, s5, s6, s7, s8⟩ := hSw; go_simp; try with_reducible rfl)
            try simp only [Act.put, List.setIfInBounds_toArray, List.set_cons_zero, List.set_cons_succ, List.getElem_toArray, List.getElem_cons_succ, List.getElem_cons_zero]
            refine wpAnyH_take (i := 4) (v := ?vt4_5) rfl (by kernel_rfl) (by kernel_rfl) (by kernel_rfl) (fun _ _ _ h => h) (Or.inl ⟨by rfl, ?hyt4_5⟩) (by assumption) ?restt4_5
            case hyt4_5 => (intro w hSw; obtain ⟨s1, s2, s3, s4, s5, s6, s7, s8⟩ := hSw; go_simp; try with_reducible rfl)
            try simp only [Act.put, List.setIfInBounds_toArray, List.set_cons_zero, List.set_cons_succ, List.getElem_toArray, List.getElem_cons_succ, List.getElem_cons_zero]
            refine wpAnyH_take (i := 5) (v := ?vt5_6) rfl (by kernel_rfl) (by kernel_rfl) (by kernel_rfl) (fun _ _ _ h => h) (Or.inl ⟨by rfl, ?hyt5_6⟩) (by assumption) ?restt5_6
            case hyt5_6 => (intro w hSw; obtain ⟨s1, s2, s3, s4, s5, s6, s7, s8⟩ := hSw; go_simp; try with_reducible rfl)
            try simp only [Act.put, List.setIfInBounds_toArray, List.set_cons_zero, List.set_cons_succ, List.getElem_toArray, List.getElem_cons_succ, List.getElem_cons_zero]
            refine wpAnyH_take (i := 6) (v := ?vt6_7) rfl (by kernel_rfl) (by kernel_rfl) (by kernel_rfl) (fun _ _ _ h => h) (Or.inl ⟨by rfl, ?hyt6_7⟩) (by assumption) ?restt6_7
            case hyt6_7 => (intro w hSw; obtain ⟨s1, s2, s3, s4, s5, s6, s7, s8⟩ := hSw; go_simp; try with_reducible rfl)
            try simp only [Act.put, List.setIfInBounds_toArray, List.set_cons_zero, List.set_cons_succ, List.getElem_toArray, List.getElem_cons_succ, List.getElem_cons_zero]
            refine wpAnyH_take (i := 7) (v := ?vt7_8) rfl (by kernel_rfl) (by kernel_rfl) (by kernel_rfl) (fun _ _ _ h => h) (Or.inl ⟨by rfl, ?hyt7_8⟩) (by assumption) ?restt7_8
            case hyt7_8 => (intro w hSw; obtain ⟨s1, s2, s3, s4, s5, s6, s7, s8⟩ := hSw; go_simp; try with_reducible rfl)
            try simp only [Act.put, List.setIfInBounds_toArray, List.set_cons_zero, List.set_cons_succ, List.getElem_toArray, List.getElem_cons_succ, List.getElem_cons_zero]
            refine wpAnyH_take (i := 8) (v := ?vt8_9) rfl (by kernel_rfl) (by kernel_rfl) (by kernel_rfl) (fun _ _ _ h => h) (Or.inl ⟨by rfl, ?hyt8_9⟩) (by assumption) ?restt8_9
            case hyt8_9 => (intro w hSw; obtain ⟨s1, s2, s3, s4, s5, s6, s7, s8⟩ := hSw; go_simp; try with_reducible rfl)
            try simp only [Act.put, List.setIfInBounds_toArray, List.set_cons_zero, List.set_cons_succ, List.getElem_toArray, List.getElem_cons_succ, List.getElem_cons_zero]
            refine wpAnyH_take (i := 9) (v := ?vt9_10) rfl (by kernel_rfl) (by kernel_rfl) (by kernel_rfl) (fun _ _ _ h => h) (Or.inl ⟨by rfl, ?hyt9_10⟩) (by assumption) ?restt9_10
            case hyt9_10 => (intro w hSw; obtain ⟨s1, s2, s3, s4, s5, s6, s7, s8⟩ := hSw; go_simp; try with_reducible rfl)
            try simp only [Act.put, List.setIfInBounds_toArray, List.set_cons_zero, List.set_cons_succ, List.getElem_toArray, List.getElem_cons_succ, List.getElem_cons_zero]
            refine wpAnyH_take (i := 10) (v := ?vt10_11) rfl (by kernel_rfl) (by kernel_rfl) (by kernel_rfl) (fun _ _ _ h => h) (Or.inl ⟨by rfl, ?hyt10_11⟩) (by assumption) ?restt10_11
            case hyt10_11 => (intro w hSw; obtain ⟨s1, s2, s3, s4, s5, s6, s7, s8⟩ := hSw; go_simp; try with_reducible rfl)
            try simp only [Act.put, List.setIfInBounds_toArray, List.set_cons_zero, List.set_cons_succ, List.getElem_toArray, List.getElem_cons_succ, List.getElem_cons_zero]
            refine wpAnyH_take (i := 11) (v := ?vt11_12) rfl (by kernel_rfl) (by kernel_rfl) (by kernel_rfl) (fun _ _ _ h => h) (Or.inl ⟨by rfl, ?hyt11_12⟩) (by assumption) ?restt11_12
            case hyt11_12 => (intro w hSw; obtain ⟨s1, s2, s3, s4, s5, s6, s7, s8⟩ := hSw; go_simp; try with_reducible rfl)
            try simp only [Act.put, List.setIfInBounds_toArray, List.set_cons_zero, List.set_cons_succ, List.getElem_toArray, List.getElem_cons_succ, List.getElem_cons_zero]
            refine wpAnyH_take (i := 12) (v := ?vt12_13) rfl (by kernel_rfl) (by kernel_rfl) (by kernel_rfl) (fun _ _ _ h => h) (Or.inl ⟨by rfl, ?hyt12_13⟩) (by assumption) ?restt12_13
            case hyt12_13 => (intro w hSw; obtain ⟨s1, s2, s3, s4, s5, s6, s7, s8⟩ := hSw; go_simp; try with_reducible rfl)
            try simp only [Act.put, List.setIfInBounds_toArray, List.set_cons_zero, List.set_cons_succ, List.getElem_toArray, List.getElem_cons_succ, List.getElem_cons_zero]
            refine wpAnyH_ready (rs := [13]) (by kernel_rfl) (by simp) ?_
            refine AllReadyH.cons rfl (fun K hK => ?_) AllReadyH.nil
            go_simp
            refine (rect_rest a1 a2 a3 a4 x1 x2 x3 x4 _ HCA.out).mono ?_
            rintro e w6 ⟨v, rfl, hown, hb6⟩
            have hS6 : w6.cell? ⟨g, i * 4, none⟩ = some (.int .i64 a1) ∧ w6.cell? ⟨g, i * 4 + 1, none⟩ = some (.int .i64 a2) ∧ w6.cell? ⟨g, i * 4 + 2, none⟩ = some (.int .i64 a3) ∧ w6.cell? ⟨g, i * 4 + 3, none⟩ = some (.int .i64 a4) ∧ w6.cell? ⟨bx, 0, none⟩ = some (.int .i64 x1) ∧ w6.cell? ⟨bx, 1, none⟩ = some (.int .i64 x2) ∧ w6.cell? ⟨bx, 2, none⟩ = some (.int .i64 x3) ∧ w6.cell? ⟨bx, 3, none⟩ = some (.int .i64 x4) := by
              obtain ⟨s1, s2, s3, s4, s5, s6, s7, s8⟩ := hHeld
              exact ⟨cell_step hb6 s1, cell_step hb6 s2, cell_step hb6 s3, cell_step hb6 s4, cell_step hb6 s5, cell_step hb6 s6, cell_step hb6 s7, cell_step hb6 s8⟩
            have HB6 := Lib.hid (HB.out.drew.below hb6)
            have HL6 := Lib.hid ((HL.out.below ((Below.refl _ wr).drew)).below hb6)
            have hfar : v.ownBlock ≠ some g := fun q => by
              have h9 := (hown.lt g q).1
              have h10 : wr.heap.size ≤ g := h9
              omega
            have HOW := Lib.hid hown
            have HFA := Lib.hid hfar
            have HS6 := Lib.hid hS6
            have hb6s : wr.heap.size ≤ w6.heap.size := hb6.size
            clear hown hfar hb6 hS6
            go_wp2_with fail
            refine hK.out _ _ HS6.out (fun hHeld => ?_)
            clear hK K
            try simp only [Act.put, List.setIfInBounds_toArray, List.set_cons_zero, List.set_cons_succ, List.getElem_toArray, List.getElem_cons_succ, List.getElem_cons_zero]
            have hap := append_one (i := i) HL6.out hil (fun q => rfl) (fun q => absurd q (Nat.lt_irrefl _)) HOW.out HFA.out (rcells_one _) (by have h9 := HMID.out; have h10 := HML.out; omega)
            rw [Nat.sub_self, show nL - (i + 1) = 0 from by omega, Nat.zero_add] at hap
            have HMID := keep (by have h9 := HMID.out; rw [show nL - (i + 1) = 0 from by omega, Nat.zero_add] at h9; exact h9)
            obtain ⟨b1, c7, w7, hr7, hrd7, hl7, hg7, hk7⟩ := hap
            refine wpAnyH_ready (rs := [14]) (by kernel_rfl) (by simp) ?_
            refine AllReadyH.cons rfl (fun K hK => ?_) AllReadyH.nil
            refine step_run rfl _ _ _ (by rfl) _ _ (by rfl) (by rfl) hr7 ?_
            have hS7 : w7.cell? ⟨g, i * 4, none⟩ = some (.int .i64 a1) ∧ w7.cell? ⟨g, i * 4 + 1, none⟩ = some (.int .i64 a2) ∧ w7.cell? ⟨g, i * 4 + 2, none⟩ = some (.int .i64 a3) ∧ w7.cell? ⟨g, i * 4 + 3, none⟩ = some (.int .i64 a4) ∧ w7.cell? ⟨bx, 0, none⟩ = some (.int .i64 x1) ∧ w7.cell? ⟨bx, 1, none⟩ = some (.int .i64 x2) ∧ w7.cell? ⟨bx, 2, none⟩ = some (.int .i64 x3) ∧ w7.cell? ⟨bx, 3, none⟩ = some (.int .i64 x4) := by
              obtain ⟨s1, s2, s3, s4, s5, s6, s7, s8⟩ := HS6.out
              exact ⟨(hk7 _ (by omega)).trans s1, (hk7 _ (by omega)).trans s2, (hk7 _ (by omega)).trans s3, (hk7 _ (by omega)).trans s4, hg7.cell s5 (fun q => HG.out (Option.some.inj q)), hg7.cell s6 (fun q => HG.out (Option.some.inj q)), hg7.cell s7 (fun q => HG.out (Option.some.inj q)), hg7.cell s8 (fun q => HG.out (Option.some.inj q))⟩
            refine hK.out _ _ hS7 (fun hHeld => ?_)
            clear hK K
            try simp only [Act.put, List.setIfInBounds_toArray, List.set_cons_zero, List.set_cons_succ, List.getElem_toArray, List.getElem_cons_succ, List.getElem_cons_zero]
            have HB7 := Lib.hid (HB6.out.row_ hg7 (fun y hy => by
              rcases List.mem_cons.1 hy with rfl | hy
              · exact fun q => HG.out (Option.some.inj q)
              · rw [List.mem_singleton] at hy
                subst hy
                intro kk hkk
                obtain rfl := Option.some.inj hkk
                exact HL.out.base) (fun kk hkk => by obtain rfl := Option.some.inj hkk; exact HL.out.base))
            obtain ⟨g2, c8, w8, hr8, hl8, hg8, hgg⟩ := append_two (i := i) (k := (restL ⟨a1, a2, a3, a4⟩ ⟨x1, x2, x3, x4⟩).length) (ys := (rcells (midP L0 ⟨x1, x2, x3, x4⟩ (i + 1))).drop ((i + 1) * 4) ++ rcells (restL ⟨a1, a2, a3, a4⟩ ⟨x1, x2, x3, x4⟩)) hl7 (by omega) (by rw [List.length_append, List.length_drop, rcells_len, rcells_len, ← HN.out, Nat.add_mul]; omega) hrd7 HB7.out.bel.size (by have h9 := HMID.out; have h10 := HML.out; omega)
            have HB8 := Lib.hid (HB7.out.row_ hg8 (fun y _ => y.none_) (fun kk hkk => by cases hkk))
            have HL8 := Lib.hid hl8
            have HS7 := Lib.hid hS7
            have hb7s : wr.heap.size ≤ w7.heap.size := Nat.le_trans hb6s hg7.size
            have HG8 := keep (show bx ≠ g2 from fun q => by
              rcases hgg with q2 | q2
              · exact HG.out (q.trans q2)
              · omega)
            have hS8 : w8.cell? ⟨g, i * 4, none⟩ = some (.int .i64 a1) ∧ w8.cell? ⟨g, i * 4 + 1, none⟩ = some (.int .i64 a2) ∧ w8.cell? ⟨g, i * 4 + 2, none⟩ = some (.int .i64 a3) ∧ w8.cell? ⟨g, i * 4 + 3, none⟩ = some (.int .i64 a4) ∧ w8.cell? ⟨bx, 0, none⟩ = some (.int .i64 x1) ∧ w8.cell? ⟨bx, 1, none⟩ = some (.int .i64 x2) ∧ w8.cell? ⟨bx, 2, none⟩ = some (.int .i64 x3) ∧ w8.cell? ⟨bx, 3, none⟩ = some (.int .i64 x4) := by
              obtain ⟨s1, s2, s3, s4, s5, s6, s7, s8⟩ := HS7.out
              exact ⟨hg8.cell s1 (by simp), hg8.cell s2 (by simp), hg8.cell s3 (by simp), hg8.cell s4 (by simp), hg8.cell s5 (by simp), hg8.cell s6 (by simp), hg8.cell s7 (by simp), hg8.cell s8 (by simp)⟩
            clear hl8 hg8 hgg
            refine wpAnyH_ready (rs := [15]) (by kernel_rfl) (by simp) ?_
            refine AllReadyH.cons rfl (fun K hK => ?_) AllReadyH.nil
            refine step_run rfl _ _ _ (by rfl) _ _ (by rfl) (by rfl) hr8 ?_
            refine hK.out _ _ hS8 (fun hHeld => ?_)
            clear hK K
            try simp only [Act.put, List.setIfInBounds_toArray, List.set_cons_zero, List.set_cons_succ, List.getElem_toArray, List.getElem_cons_succ, List.getElem_cons_zero]
            clear hr8 hS8 hl7 hg7 hk7 hrd7 hr7
            refine wpAnyH_take (i := 16) (v := ?vt16_14) rfl (by kernel_rfl) (by kernel_rfl) (by kernel_rfl) (fun _ _ _ h => h) (Or.inl ⟨by rfl, ?hyt16_14⟩) (by assumption) ?restt16_14
            case hyt16_14 => (intro w hSw; obtain ⟨s1, s2, s3, s4, s5, s6, s7, s8⟩ := hSw; go_simp; try with_reducible rfl)
            try simp only [Act.put, List.setIfInBounds_toArray, List.set_cons_zero, List.set_cons_succ, List.getElem_toArray, List.getElem_cons_succ, List.getElem_cons_zero]
            refine wpAnyH_done (by kernel_rfl) ?_ _
            clear e1 e2 e3 e4 d0 d1 d2 d3 hHeld
            go_wp2_with fail
            exact ⟨⟨i, g2, _, c8, by omega, rfl, rfl, keep HMID.out.symm, HG8, HB8, by rw [← HMC.out]; exact HL8⟩, by simp [intOf]⟩
          · have hcc2 : ¬ cL = i + 1 := fun e => hcc e.symm
            have hcc3 : ¬ (cL : Int) = (i : Int) + 1 := by omega
            go_wp2_with fail
            refine wp_region_held_drew (S := (fun W => W.cell? ⟨g, i * 4, none⟩ = some (.int .i64 a1) ∧ W.cell? ⟨g, i * 4 + 1, none⟩ = some (.int .i64 a2) ∧ W.cell? ⟨g, i * 4 + 2, none⟩ = some (.int .i64 a3) ∧ W.cell? ⟨g, i * 4 + 3, none⟩ = some (.int .i64 a4) ∧ W.cell? ⟨bx, 0, none⟩ = some (.int .i64 x1) ∧ W.cell? ⟨bx, 1, none⟩ = some (.int .i64 x2) ∧ W.cell? ⟨bx, 2, none⟩ = some (.int .i64 x3) ∧ W.cell? ⟨bx, 3, none⟩ = some (.int .i64 x4))) (by kernel_rfl) ⟨e1, e2, e3, e4, d0, d1, d2, d3⟩ (fun hHeld => ?_)
            refine wpAnyH_take (i := 0) (v := ?vt0_15) rfl (by kernel_rfl) (by kernel_rfl) (by kernel_rfl) (fun _ _ _ h => h) (Or.inl ⟨by rfl, ?hyt0_15⟩) (by assumption) ?restt0_15
            case hyt0_15 => (intro w hSw; obtain ⟨s1, s2, s3, s4, s5, s6, s7, s8⟩ := hSw; go_simp; try with_reducible rfl)
            try simp only [Act.put, List.setIfInBounds_toArray, List.set_cons_zero, List.set_cons_succ, List.getElem_toArray, List.getElem_cons_succ, List.getElem_cons_zero]
            refine wpAnyH_take (i := 1) (v := ?vt1_16) rfl (by kernel_rfl) (by kernel_rfl) (by kernel_rfl) (fun _ _ _ h => h) (Or.inl ⟨by rfl, ?hyt1_16⟩) (by assumption) ?restt1_16
            case hyt1_16 => (intro w hSw; obtain ⟨s1, s2, s3, s4, s5, s6, s7, s8⟩ := hSw; go_simp; try with_reducible rfl)
            try simp only [Act.put, List.setIfInBounds_toArray, List.set_cons_zero, List.set_cons_succ, List.getElem_toArray, List.getElem_cons_succ, List.getElem_cons_zero]
            refine wpAnyH_take (i := 2) (v := ?vt2_17) rfl (by kernel_rfl) (by kernel_rfl) (by kernel_rfl) (fun _ _ _ h => h) (Or.inl ⟨by rfl, ?hyt2_17⟩) (by assumption) ?restt2_17
            case hyt2_17 => (intro w hSw; obtain ⟨s1, s2, s3, s4, s5, s6, s7, s8⟩ := hSw; go_simp; try with_reducible rfl)
            try simp only [Act.put, List.setIfInBounds_toArray, List.set_cons_zero, List.set_cons_succ, List.getElem_toArray, List.getElem_cons_succ, List.getElem_cons_zero]
            refine wpAnyH_take (i := 3) (v := ?vt3_18) rfl (by kernel_rfl) (by kernel_rfl) (by kernel_rfl) (fun _ _ _ h => h) (Or.inl ⟨by rfl, ?hyt3_18⟩) (by assumption) ?restt3_18
            case hyt3_18 => (intro w hSw; obtain ⟨s1, s2, s3, s4, s5, s6, s7, s8⟩ := hSw; go_simp; try with_reducible rfl)
            try simp only [Act.put, List.setIfInBounds_toArray, List.set_cons_zero, List.set_cons_succ, List.getElem_toArray, List.getElem_cons_succ, List.getElem_cons_zero]
            refine wpAnyH_take (i := 4) (v := ?vt4_19) rfl (by kernel_rfl) (by kernel_rfl) (by kernel_rfl) (fun _ _ _ h => h) (Or.inl ⟨by rfl, ?hyt4_19⟩) (by assumption) ?restt4_19
            case hyt4_19 => (intro w hSw; obtain ⟨s1, s2, s3, s4, s5, s6, s7, s8⟩ := hSw; go_simp; try with_reducible rfl)
            try simp only [Act.put, List.setIfInBounds_toArray, List.set_cons_zero, List.set_cons_succ, List.getElem_toArray, List.getElem_cons_succ, List.getElem_cons_zero]
            refine wpAnyH_take (i := 5) (v := ?vt5_20) rfl (by kernel_rfl) (by kernel_rfl) (by kernel_rfl) (fun _ _ _ h => h) (Or.inl ⟨by rfl, ?hyt5_20⟩) (by assumption) ?restt5_20
            case hyt5_20 => (intro w hSw; obtain ⟨s1, s2, s3, s4, s5, s6, s7, s8⟩ := hSw; go_simp; try with_reducible rfl)
            try simp only [Act.put, List.setIfInBounds_toArray, List.set_cons_zero, List.set_cons_succ, List.getElem_toArray, List.getElem_cons_succ, List.getElem_cons_zero]
            refine wpAnyH_take (i := 6) (v := ?vt6_21) rfl (by kernel_rfl) (by kernel_rfl) (by kernel_rfl) (fun _ _ _ h => h) (Or.inl ⟨by rfl, ?hyt6_21⟩) (by assumption) ?restt6_21
            case hyt6_21 => (intro w hSw; obtain ⟨s1, s2, s3, s4, s5, s6, s7, s8⟩ := hSw; go_simp; try with_reducible rfl)
            try simp only [Act.put, List.setIfInBounds_toArray, List.set_cons_zero, List.set_cons_succ, List.getElem_toArray, List.getElem_cons_succ, List.getElem_cons_zero]
            refine wpAnyH_take (i := 7) (v := ?vt7_22) rfl (by kernel_rfl) (by kernel_rfl) (by kernel_rfl) (fun _ _ _ h => h) (Or.inl ⟨by rfl, ?hyt7_22⟩) (by assumption) ?restt7_22
            case hyt7_22 => (intro w hSw; obtain ⟨s1, s2, s3, s4, s5, s6, s7, s8⟩ := hSw; go_simp; try with_reducible rfl)
            try simp only [Act.put, List.setIfInBounds_toArray, List.set_cons_zero, List.set_cons_succ, List.getElem_toArray, List.getElem_cons_succ, List.getElem_cons_zero]
            refine wpAnyH_take (i := 8) (v := ?vt8_23) rfl (by kernel_rfl) (by kernel_rfl) (by kernel_rfl) (fun _ _ _ h => h) (Or.inl ⟨by rfl, ?hyt8_23⟩) (by assumption) ?restt8_23
            case hyt8_23 => (intro w hSw; obtain ⟨s1, s2, s3, s4, s5, s6, s7, s8⟩ := hSw; go_simp; try with_reducible rfl)
            try simp only [Act.put, List.setIfInBounds_toArray, List.set_cons_zero, List.set_cons_succ, List.getElem_toArray, List.getElem_cons_succ, List.getElem_cons_zero]
            refine wpAnyH_take (i := 9) (v := ?vt9_24) rfl (by kernel_rfl) (by kernel_rfl) (by kernel_rfl) (fun _ _ _ h => h) (Or.inl ⟨by rfl, ?hyt9_24⟩) (by assumption) ?restt9_24
            case hyt9_24 => (intro w hSw; obtain ⟨s1, s2, s3, s4, s5, s6, s7, s8⟩ := hSw; go_simp; try with_reducible rfl)
            try simp only [Act.put, List.setIfInBounds_toArray, List.set_cons_zero, List.set_cons_succ, List.getElem_toArray, List.getElem_cons_succ, List.getElem_cons_zero]
            refine wpAnyH_take (i := 10) (v := ?vt10_25) rfl (by kernel_rfl) (by kernel_rfl) (by kernel_rfl) (fun _ _ _ h => h) (Or.inl ⟨by rfl, ?hyt10_25⟩) (by assumption) ?restt10_25
            case hyt10_25 => (intro w hSw; obtain ⟨s1, s2, s3, s4, s5, s6, s7, s8⟩ := hSw; go_simp; try with_reducible rfl)
            try simp only [Act.put, List.setIfInBounds_toArray, List.set_cons_zero, List.set_cons_succ, List.getElem_toArray, List.getElem_cons_succ, List.getElem_cons_zero]
            refine wpAnyH_take (i := 11) (v := ?vt11_26) rfl (by kernel_rfl) (by kernel_rfl) (by kernel_rfl) (fun _ _ _ h => h) (Or.inl ⟨by rfl, ?hyt11_26⟩) (by assumption) ?restt11_26
            case hyt11_26 => (intro w hSw; obtain ⟨s1, s2, s3, s4, s5, s6, s7, s8⟩ := hSw; go_simp; try with_reducible rfl)
            try simp only [Act.put, List.setIfInBounds_toArray, List.set_cons_zero, List.set_cons_succ, List.getElem_toArray, List.getElem_cons_succ, List.getElem_cons_zero]
            refine wpAnyH_take (i := 12) (v := ?vt12_27) rfl (by kernel_rfl) (by kernel_rfl) (by kernel_rfl) (fun _ _ _ h => h) (Or.inl ⟨by rfl, ?hyt12_27⟩) (by assumption) ?restt12_27
            case hyt12_27 => (intro w hSw; obtain ⟨s1, s2, s3, s4, s5, s6, s7, s8⟩ := hSw; go_simp; try with_reducible rfl)
            try simp only [Act.put, List.setIfInBounds_toArray, List.set_cons_zero, List.set_cons_succ, List.getElem_toArray, List.getElem_cons_succ, List.getElem_cons_zero]
            refine wpAnyH_ready (rs := [13]) (by kernel_rfl) (by simp) ?_
            refine AllReadyH.cons rfl (fun K hK => ?_) AllReadyH.nil
            go_simp
            refine (rect_rest a1 a2 a3 a4 x1 x2 x3 x4 _ HCA.out).mono ?_
            rintro e w6 ⟨v, rfl, hown, hb6⟩
            have hS6 : w6.cell? ⟨g, i * 4, none⟩ = some (.int .i64 a1) ∧ w6.cell? ⟨g, i * 4 + 1, none⟩ = some (.int .i64 a2) ∧ w6.cell? ⟨g, i * 4 + 2, none⟩ = some (.int .i64 a3) ∧ w6.cell? ⟨g, i * 4 + 3, none⟩ = some (.int .i64 a4) ∧ w6.cell? ⟨bx, 0, none⟩ = some (.int .i64 x1) ∧ w6.cell? ⟨bx, 1, none⟩ = some (.int .i64 x2) ∧ w6.cell? ⟨bx, 2, none⟩ = some (.int .i64 x3) ∧ w6.cell? ⟨bx, 3, none⟩ = some (.int .i64 x4) := by
              obtain ⟨s1, s2, s3, s4, s5, s6, s7, s8⟩ := hHeld
              exact ⟨cell_step hb6 s1, cell_step hb6 s2, cell_step hb6 s3, cell_step hb6 s4, cell_step hb6 s5, cell_step hb6 s6, cell_step hb6 s7, cell_step hb6 s8⟩
            have HB6 := Lib.hid (HB.out.drew.below hb6)
            have HL6 := Lib.hid ((HL.out.below ((Below.refl _ wr).drew)).below hb6)
            have hfar : v.ownBlock ≠ some g := fun q => by
              have h9 := (hown.lt g q).1
              have h10 : wr.heap.size ≤ g := h9
              omega
            have HOW := Lib.hid hown
            have HFA := Lib.hid hfar
            have HS6 := Lib.hid hS6
            have hb6s : wr.heap.size ≤ w6.heap.size := hb6.size
            clear hown hfar hb6 hS6
            go_wp2_with fail
            refine hK.out _ _ HS6.out (fun hHeld => ?_)
            clear hK K
            try simp only [Act.put, List.setIfInBounds_toArray, List.set_cons_zero, List.set_cons_succ, List.getElem_toArray, List.getElem_cons_succ, List.getElem_cons_zero]
            have hap := append_one (i := i) HL6.out hil (fun q => absurd q hcc) (fun q => rfl) HOW.out HFA.out (rcells_one _) (by have h9 := HMID.out; have h10 := HML.out; omega)
            obtain ⟨b1, c7, w7, hr7, hrd7, hl7, hg7, hk7⟩ := hap
            refine wpAnyH_ready (rs := [14]) (by kernel_rfl) (by simp) ?_
            refine AllReadyH.cons rfl (fun K hK => ?_) AllReadyH.nil
            refine step_run rfl _ _ _ (by rfl) _ _ (by rfl) (by rfl) hr7 ?_
            have hS7 : w7.cell? ⟨g, i * 4, none⟩ = some (.int .i64 a1) ∧ w7.cell? ⟨g, i * 4 + 1, none⟩ = some (.int .i64 a2) ∧ w7.cell? ⟨g, i * 4 + 2, none⟩ = some (.int .i64 a3) ∧ w7.cell? ⟨g, i * 4 + 3, none⟩ = some (.int .i64 a4) ∧ w7.cell? ⟨bx, 0, none⟩ = some (.int .i64 x1) ∧ w7.cell? ⟨bx, 1, none⟩ = some (.int .i64 x2) ∧ w7.cell? ⟨bx, 2, none⟩ = some (.int .i64 x3) ∧ w7.cell? ⟨bx, 3, none⟩ = some (.int .i64 x4) := by
              obtain ⟨s1, s2, s3, s4, s5, s6, s7, s8⟩ := HS6.out
              exact ⟨(hk7 _ (by omega)).trans s1, (hk7 _ (by omega)).trans s2, (hk7 _ (by omega)).trans s3, (hk7 _ (by omega)).trans s4, hg7.cell s5 (fun q => HG.out (Option.some.inj q)), hg7.cell s6 (fun q => HG.out (Option.some.inj q)), hg7.cell s7 (fun q => HG.out (Option.some.inj q)), hg7.cell s8 (fun q => HG.out (Option.some.inj q))⟩
            refine hK.out _ _ hS7 (fun hHeld => ?_)
            clear hK K
            try simp only [Act.put, List.setIfInBounds_toArray, List.set_cons_zero, List.set_cons_succ, List.getElem_toArray, List.getElem_cons_succ, List.getElem_cons_zero]
            have HB7 := Lib.hid (HB6.out.row_ hg7 (fun y hy => by
              rcases List.mem_cons.1 hy with rfl | hy
              · exact fun q => HG.out (Option.some.inj q)
              · rw [List.mem_singleton] at hy
                subst hy
                intro kk hkk
                obtain rfl := Option.some.inj hkk
                exact HL.out.base) (fun kk hkk => by obtain rfl := Option.some.inj hkk; exact HL.out.base))
            obtain ⟨g2, c8, w8, hr8, hl8, hg8, hgg⟩ := append_two (i := i) (k := nL - (i + 1) + (restL ⟨a1, a2, a3, a4⟩ ⟨x1, x2, x3, x4⟩).length) (ys := (rcells (midP L0 ⟨x1, x2, x3, x4⟩ (i + 1))).drop ((i + 1) * 4) ++ rcells (restL ⟨a1, a2, a3, a4⟩ ⟨x1, x2, x3, x4⟩)) hl7 (by omega) (by rw [List.length_append, List.length_drop, rcells_len, rcells_len, ← HN.out, Nat.add_mul]; omega) hrd7 HB7.out.bel.size (by have h9 := HMID.out; have h10 := HML.out; omega)
            have HB8 := Lib.hid (HB7.out.row_ hg8 (fun y _ => y.none_) (fun kk hkk => by cases hkk))
            have HL8 := Lib.hid hl8
            have HS7 := Lib.hid hS7
            have hb7s : wr.heap.size ≤ w7.heap.size := Nat.le_trans hb6s hg7.size
            have HG8 := keep (show bx ≠ g2 from fun q => by
              rcases hgg with q2 | q2
              · exact HG.out (q.trans q2)
              · omega)
            have hS8 : w8.cell? ⟨g, i * 4, none⟩ = some (.int .i64 a1) ∧ w8.cell? ⟨g, i * 4 + 1, none⟩ = some (.int .i64 a2) ∧ w8.cell? ⟨g, i * 4 + 2, none⟩ = some (.int .i64 a3) ∧ w8.cell? ⟨g, i * 4 + 3, none⟩ = some (.int .i64 a4) ∧ w8.cell? ⟨bx, 0, none⟩ = some (.int .i64 x1) ∧ w8.cell? ⟨bx, 1, none⟩ = some (.int .i64 x2) ∧ w8.cell? ⟨bx, 2, none⟩ = some (.int .i64 x3) ∧ w8.cell? ⟨bx, 3, none⟩ = some (.int .i64 x4) := by
              obtain ⟨s1, s2, s3, s4, s5, s6, s7, s8⟩ := HS7.out
              exact ⟨hg8.cell s1 (by simp), hg8.cell s2 (by simp), hg8.cell s3 (by simp), hg8.cell s4 (by simp), hg8.cell s5 (by simp), hg8.cell s6 (by simp), hg8.cell s7 (by simp), hg8.cell s8 (by simp)⟩
            clear hl8 hg8 hgg
            refine wpAnyH_ready (rs := [15]) (by kernel_rfl) (by simp) ?_
            refine AllReadyH.cons rfl (fun K hK => ?_) AllReadyH.nil
            refine step_run rfl _ _ _ (by rfl) _ _ (by rfl) (by rfl) hr8 ?_
            refine hK.out _ _ hS8 (fun hHeld => ?_)
            clear hK K
            try simp only [Act.put, List.setIfInBounds_toArray, List.set_cons_zero, List.set_cons_succ, List.getElem_toArray, List.getElem_cons_succ, List.getElem_cons_zero]
            clear hr8 hS8 hl7 hg7 hk7 hrd7 hr7
            refine wpAnyH_take (i := 16) (v := ?vt16_28) rfl (by kernel_rfl) (by kernel_rfl) (by kernel_rfl) (fun _ _ _ h => h) (Or.inl ⟨by rfl, ?hyt16_28⟩) (by assumption) ?restt16_28
            case hyt16_28 => (intro w hSw; obtain ⟨s1, s2, s3, s4, s5, s6, s7, s8⟩ := hSw; go_simp; try with_reducible rfl)
            try simp only [Act.put, List.setIfInBounds_toArray, List.set_cons_zero, List.set_cons_succ, List.getElem_toArray, List.getElem_cons_succ, List.getElem_cons_zero]
            refine wpAnyH_done (by kernel_rfl) ?_ _
            clear e1 e2 e3 e4 d0 d1 d2 d3 hHeld
            go_wp2_with fail
            exact ⟨⟨i, g2, _, c8, by omega, rfl, rfl, keep HMID.out.symm, HG8, HB8, by rw [← HMC.out]; exact HL8⟩, by simp [intOf]⟩
    · have hke : k = n := by omega
      subst hke
      have hq : ((nL : Int) == 0) = coversP ⟨r1, r2, r3, r4⟩ (listR f k) := by
        unfold coversP
        rw [HN.out]
        cases leftP ⟨r1, r2, r3, r4⟩ (listR f k) <;> simp <;> omega
      have HCV := keep (coversS_yes (f := f) (n := k) HC1.out HC2.out)
      go_wp2_with fail
      go_ret2
      rw [HCV.out]
      exact ⟨rfl, H.out.bel⟩
end Go.Proofs.YtkdabfepggehiaaDoor
