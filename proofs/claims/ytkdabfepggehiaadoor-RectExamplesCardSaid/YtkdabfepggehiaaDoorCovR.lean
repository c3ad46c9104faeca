/- The contract of the reference's Covers. Condition: at most 64 ranges, which read as f. -/
import Derived.Test.YtkdabfepggehiaaDoorCovW
import Derived.Test.YtkdabfepggehiaaDoorEqR
namespace Go.Proofs.YtkdabfepggehiaaDoor
open Go.RowKit

theorem append_parts {W : World} {B B' n m : Nat} {v s : Value} {xs news : List Value} (hv : W.ownsRow B 38 4 v n xs) (hs : W.ownsRow B' 38 4 s m news) (h1 : ∀ u ∈ news, u.oneCell' = true) (hB : B ≤ W.heap.size) (hn : n + m ≤ 4194304) :
    ∃ v' w', (Builtin.append_ #[57, 57] 57 #[v, s]).run Tryd.prog W = .ok v' w' ∧ w'.ownsRow B 38 4 v' (n + m) (xs ++ news) ∧ W.grownBy w' v.ownBlock ∧ (v'.ownBlock = none ∨ v'.ownBlock = v.ownBlock ∨ v'.ownBlock = some W.heap.size) := by
  obtain ⟨i0, hi0, hz0, hz1, hzb⟩ := info_parts info_rect
  have hc := @World.ownsRow.cells _ _ _ _ _ _ _ hs
  have hlen := hs.1
  rcases hs.2 with ⟨rfl, rfl⟩ | ⟨g, cap, cur, rfl, _⟩
  · obtain rfl : news = [] := List.eq_nil_of_length_eq_zero (by simpa using hlen)
    refine ⟨v, W, run_append_owned_none (P := Tryd.prog) (w := W) B 57 57 38 i0 4 Tryd.underlying57 hi0 v n xs hv, by rw [List.append_nil]; exact hv, ⟨rfl, rfl, rfl, Nat.le_refl _, fun _ _ _ => rfl⟩, .inr (.inl rfl)⟩
  · obtain ⟨v', w', hr, ho, hg, _, hat⟩ := run_append_own_at (P := Tryd.prog) W B 57 57 38 i0 _ 4 32 Tryd.underlying57 hi0 hz0 hz1 hzb rfl (by omega) v n xs hv ⟨g, 0, none⟩ m cap news hlen (hc rfl) h1 (by unfold maxLen; omega) (by omega) hB
    exact ⟨v', w', hr, ho, hg, .inr hat⟩
theorem wpList_run {P : Program} {w w' : World} {ops : Array Oper} {rest : List Oper} {o : Oper} {a : Act} {Q : Exit → Act → World → Prop} {v : Value} (hgd : o.guard = none) (s x : Operand) (t : TypeId)
    (ho : o.op = .call { callee := .builtin .append, args := #[s, x], argTypes := #[t, t] }) (V X : Value) (hs : a.eval s = V) (hx : a.eval x = X) (hr : (Builtin.append_ #[t, t] o.type #[V, X]).run P w = .ok v w')
    (h : wpList P ops Q rest (a.put o.dst v) w') : wpList P ops Q (o :: rest) a w := by
  refine wpList_plain hgd fun K hK => ?_
  unfold Oper.wp execOp
  simp only [ho, resolve, invoke, builtin, Sem.run_bind, Sem.run_pure, Result.andThen_ok, List.map_toArray, List.map_cons, List.map_nil, hs, hx, hr]
  exact hK _ _ h
theorem leftR_succ (r : R4) (f : Nat → R4) (k : Nat) : leftR r (listR f (k + 1)) = cutR (leftR r (listR f k)) (f k) := by
  rw [listR_succ, leftR, List.foldl_append]; rfl
theorem cutR_fits {L : List R4} {x : R4} (h : Fits L) (hx : checkB x = true) (k : Nat) : Fits (cutR (L.take k) x) := by
  have hL : ∀ a ∈ L.take k, checkB a = true := fun a ha => h.each a (List.mem_of_mem_take ha)
  have e : cutR (L.take k) x = (L.take k).flatMap fun a => restL a x := by
    unfold cutR
    generalize L.take k = K at hL
    induction K with
    | nil => rfl
    | cons a K ih =>
      rw [List.flatMap_cons, List.flatMap_cons, ih fun b hb => hL b (by simp [hb])]
      unfold minusL
      rw [hL a (by simp), hx]
      rfl
  rw [e]
  obtain ⟨f1, f2⟩ := flat_fits _ x hL hx
  refine ⟨f1, ?_⟩
  have e2 : sumA L = sumA (L.take k) + sumA (L.drop k) := by rw [← sumA_append, List.take_append_drop]
  have h3 := sumA_len (L.drop k) fun a ha => h.each a (List.mem_of_mem_drop ha)
  have := h.sum
  omega
theorem cutR_succ (L : List R4) (x a : R4) (k : Nat) (h : L[k]? = some a) : cutR (L.take (k + 1)) x = cutR (L.take k) x ++ minusL a x := by
  obtain ⟨hk, rfl⟩ := List.getElem?_eq_some_iff.1 h
  rw [List.take_succ_eq_append_getElem hk]
  unfold cutR
  rw [List.flatMap_append]
  congr 1
  exact List.append_nil _
theorem leftR_fits (r : R4) (l : List R4) (hr : checkB r = true) (hl : ∀ x ∈ l, checkB x = true) : Fits (leftR r l) := by
  have key : ∀ (l : List R4) (L : List R4), (∀ x ∈ l, checkB x = true) → Fits L → Fits (l.foldl cutR L) := by
    intro l
    induction l with
    | nil => intro L _ h; exact h
    | cons x l ih =>
      intro L hl h
      have := cutR_fits h (hl x (by simp)) L.length
      rw [List.take_length] at this
      exact ih _ (fun y hy => hl y (by simp [hy])) this
  exact key l [r] hl (one_fits r hr)
attribute [local irreducible] rcells leftR cutR listR coversP minusL minusE
set_option maxRecDepth 100000 in
set_option maxHeartbeats 8000000 in
theorem ref_Covers (r1 r2 r3 r4 : Int) (a : Option Addr) (n c : Nat) (f : Nat → R4) (w : World) (hn : n ≤ 64) (hr : IsRects w w.heap.size a n f) :
    Calls Tryd.prog 49 #[.agg #[.int .i64 r1, .int .i64 r2, .int .i64 r3, .int .i64 r4], .slice a n c] w fun e w' => e = .returned (.tuple #[.bool (coversS ⟨r1, r2, r3, r4⟩ f n).1, .int .i64 (coversS ⟨r1, r2, r3, r4⟩ f n).2]) ∧ Below w.heap.size w w' := by
  have H0 := Lib.hid (((Ok.start w).add (kRects w.heap.size a n f) ⟨hr, Nat.le_refl _⟩).alloc w.heap.size 38 [.int .i64 r1, .int .i64 r2, .int .i64 r3, .int .i64 r4] rfl)
  clear hr
  go_enter Tryd.func49, Tryd.ntmps49
  have F1 := H0.out.sees
  simp only [sees, kBlk, cellsAt, Nat.reduceAdd] at F1
  obtain ⟨⟨z0, c0, c1, c2, c3, -⟩, -⟩ := F1
  go_wp2_with fail
  clear z0 c0 c1 c2 c3
  generalize w.alloc (.cells #[.int .i64 r1, .int .i64 r2, .int .i64 r3, .int .i64 r4] 38) = w1 at H0 ⊢
  refine (ref_Check r1 r2 r3 r4 _).mono ?_
  rintro e w2 ⟨rfl, hb2⟩
  have H2 := Lib.hid (H0.out.below hb2)
  clear H0 hb2
  cases hc1 : checkB ⟨r1, r2, r3, r4⟩
  · have HC1 := keep hc1
    rw [checkE_no hc1]
    clear hc1
    go_wp2_with fail
    go_ret2
    rw [coversS_no1 HC1.out]
    exact ⟨rfl, H2.out.bel⟩
  have HC1 := keep hc1
  rw [checkE_yes hc1]
  clear hc1
  go_wp2_with fail
  go_loopw [6] (fun kv wr => ∃ k : Nat, k ≤ n ∧ kv = .int .i64 k ∧ Keep (∀ i, i < k → checkB (f i) = true) ∧ Hid (Ok w [kBlk w.heap.size 38 [.int .i64 r1, .int .i64 r2, .int .i64 r3, .int .i64 r4], kRects w.heap.size a n f] wr)) (fun kv _ => n - (intOf kv).toNat)
  case atStart => exact ⟨0, by omega, rfl, keep (fun i hi => by omega), H2⟩
  case round =>
    obtain ⟨k, hk, rfl, HA, H⟩ := hrel
    by_cases hlt : (k : Int) < n
    · obtain ⟨xb, xo, rfl, hc⟩ := rects_cells (H.out.get (kRects w.heap.size a n f) (by simp)) k (by omega)
      have HX := Lib.hid (H.out.add _ hc)
      clear hc H
      generalize hfk : f k = x at HX
      have HFK := keep hfk
      obtain ⟨x1, x2, x3, x4⟩ := x
      simp only at HX
      clear hfk
      have F5 := HX.out.sees
      simp only [sees, kCells, kBlk, cellsAt, cellsFrom, Nat.add_zero, Nat.reduceAdd] at F5
      obtain ⟨⟨zx, d0, d1, d2, d3, -⟩, -⟩ := F5
      go_wp2_with fail
      refine (ref_Check x1 x2 x3 x4 _).mono ?_
      rintro e w3 ⟨rfl, hb3⟩
      have H3 := Lib.hid (HX.out.tail.below hb3)
      clear HX hb3 zx d0 d1 d2 d3
      cases hc2 : checkB ⟨x1, x2, x3, x4⟩
      · have HC2 := keep hc2
        rw [checkE_no hc2]
        clear hc2
        go_wp2_with fail
        go_ret2
        rw [coversS_no2 (allB_no f k (by rw [HFK.out]; exact HC2.out) n (by omega))]
        exact ⟨rfl, H3.out.bel⟩
      have HC2 := keep hc2
      rw [checkE_yes hc2]
      clear hc2
      go_wp2_with fail
      go_roundw
      case rel => exact ⟨k + 1, by omega, by go_num, keep (fun i hi => by
        rcases Nat.lt_or_ge i k with q | q
        · exact HA.out i q
        · obtain rfl : i = k := by omega
          rw [HFK.out]; exact HC2.out), H3⟩
      case measure => simp [intOf]; omega
    · obtain rfl : n = k := by omega
      have HC2 := keep ((allB_iff f n).2 HA.out)
      have F3 := H.out.sees
      simp only [sees, kBlk, cellsAt, Nat.reduceAdd] at F3
      obtain ⟨⟨z0, c0, c1, c2, c3, -⟩, -⟩ := F3
      go_wp2_with fail
      have H4 := Lib.hid (H.out.tail.alloc wr.heap.size 38 [.int .i64 r1, .int .i64 r2, .int .i64 r3, .int .i64 r4] rfl)
      have hI : IsRects (wr.alloc (.cells #[.int .i64 r1, .int .i64 r2, .int .i64 r3, .int .i64 r4] 38)) (wr.heap.size + 1) (some ⟨wr.heap.size, 0, none⟩) 1 (fun i => (leftR ⟨r1, r2, r3, r4⟩ (listR f 0)).getD i R4.zero) := by
        have h9 := one_rect (H4.out.get (kBlk wr.heap.size 38 [.int .i64 r1, .int .i64 r2, .int .i64 r3, .int .i64 r4]) (by simp))
        rw [show leftR ⟨r1, r2, r3, r4⟩ (listR f 0) = [⟨r1, r2, r3, r4⟩] from by unfold leftR listR; rfl]
        rw [World.size_alloc] at h9
        intro h0
        obtain ⟨ad, q1, q2, q3⟩ := h9 h0
        exact ⟨ad, q1, q2, fun i j hi hj => by
          obtain rfl : i = 0 := by omega
          exact q3 0 j hi hj⟩
      have H5 := Lib.hid (H4.out.tail.add (kRects (wr.heap.size + 1) (some ⟨wr.heap.size, 0, none⟩) 1 (fun i => (leftR ⟨r1, r2, r3, r4⟩ (listR f 0)).getD i R4.zero)) ⟨hI, by simp⟩)
      clear hI H4 H z0 c0 c1 c2 c3
      generalize wr.alloc (.cells #[.int .i64 r1, .int .i64 r2, .int .i64 r3, .int .i64 r4] 38) = w4 at H5 ⊢
      generalize wr.heap.size = g0 at H5 ⊢
      clear wr hlt
      go_loopw [7, 8] (fun lv iv wr => ∃ (i nL cL B : Nat) (al : Option Addr), i ≤ n ∧ iv = .int .i64 i ∧ lv = .slice al nL cL ∧ Keep (nL = (leftR ⟨r1, r2, r3, r4⟩ (listR f i)).length) ∧ Hid (Ok w [kRects B al nL (fun q => (leftR ⟨r1, r2, r3, r4⟩ (listR f i)).getD q R4.zero), kRects w.heap.size a n f] wr)) (fun _ iv _ => n - (intOf iv).toNat)
      case atStart => exact ⟨0, 1, 1, g0 + 1, _, by omega, rfl, rfl, keep (by unfold leftR listR; rfl), H5⟩
      case round =>
        obtain ⟨i, nL, cL, B, al, hi, rfl, rfl, HN, H⟩ := hrel
        by_cases hlt : (i : Int) < n
        · have HS := keep (leftR_succ ⟨r1, r2, r3, r4⟩ f i)
          have HF := keep (leftR_fits ⟨r1, r2, r3, r4⟩ (listR f i) HC1.out (fun y hy => by
            unfold listR at hy
            obtain ⟨q, hq, rfl⟩ := List.mem_map.1 hy
            exact HA.out q (by have := List.mem_range.1 hq; omega)))
          have HFX := keep (HA.out i (by omega))
          generalize leftR ⟨r1, r2, r3, r4⟩ (listR f i) = L0 at HN HS HF H
          have hnl := HF.out.len
          rw [← HN.out] at hnl
          obtain ⟨xb, xo, rfl, hcx⟩ := rects_cells (H.out.get (kRects w.heap.size a n f) (by simp)) i (by omega)
          generalize hfi : f i = x at HS HFX hcx
          obtain ⟨x1, x2, x3, x4⟩ := x
          simp only at hcx
          have HX := Lib.hid (H.out.add _ hcx)
          clear hfi hcx H
          go_wp2_with fail
          go_loopw [9, 10] (fun nv kv wr => ∃ (k nN : Nat), k ≤ nL ∧ kv = .int .i64 k ∧ Keep (nN = (cutR (L0.take k) ⟨x1, x2, x3, x4⟩).length) ∧ Hid (OkRow w [kCells xb (xo + i * 4) [.int .i64 x1, .int .i64 x2, .int .i64 x3, .int .i64 x4], kRects B al nL (fun q => L0.getD q R4.zero), kRects w.heap.size (some ⟨xb, xo, none⟩) n f] 38 4 nv nN (rcells (cutR (L0.take k) ⟨x1, x2, x3, x4⟩)) wr)) (fun _ kv _ => nL - (intOf kv).toNat)
          case atStart => exact ⟨0, 0, by omega, rfl, keep (by unfold cutR; rfl), by rw [show rcells (cutR (L0.take 0) ⟨x1, x2, x3, x4⟩) = [] from by unfold cutR rcells; rfl]; exact Lib.hid (OkRow.start HX.out _ _)⟩
          case round =>
            obtain ⟨k, nN, hk, rfl, HNN, HR⟩ := hrel
            by_cases hkl : (k : Int) < nL
            · obtain ⟨lb, lo, rfl, hcl⟩ := rects_cells (HR.out.ok.get (kRects B al nL (fun q => L0.getD q R4.zero)) (by simp)) k (by omega)
              obtain ⟨av, hav⟩ : ∃ av, L0[k]? = some av := ⟨_, List.getElem?_eq_getElem (by have := HN.out; omega)⟩
              have hag : L0.getD k R4.zero = av := by rw [List.getD_eq_getElem?_getD, hav]; rfl
              have hcs := cutR_succ L0 ⟨x1, x2, x3, x4⟩ av k hav
              have hf1 := (cutR_fits HF.out HFX.out (k + 1)).len
              rw [hcs, List.length_append, ← HNN.out] at hf1
              rw [hag] at hcl
              obtain ⟨a1, a2, a3, a4⟩ := av
              simp only at hcl
              have e := hcl.2
              have F6 := HR.out.ok.sees
              simp only [sees, kCells, cellsFrom, Nat.add_zero, Nat.reduceAdd, Nat.zero_add] at F6
              obtain ⟨⟨zx, d0, d1, d2, d3, -⟩, -⟩ := F6
              simp only [cellsFrom, Nat.add_zero, Nat.reduceAdd, Nat.zero_add] at e
              obtain ⟨e1, e2, e3, e4, -⟩ := e
              have lz := hcl.1
              have HCS := keep hcs
              have HF1 := keep hf1
              clear hcs hav hag hf1 hcl
              go_wp2_with fail
              refine wp_region_held_drew (S := (fun W => W.cell? ⟨lb, lo + k * 4, none⟩ = some (.int .i64 a1) ∧ W.cell? ⟨lb, lo + k * 4 + 1, none⟩ = some (.int .i64 a2) ∧ W.cell? ⟨lb, lo + k * 4 + 2, none⟩ = some (.int .i64 a3) ∧ W.cell? ⟨lb, lo + k * 4 + 3, none⟩ = some (.int .i64 a4) ∧ W.cell? ⟨xb, xo + i * 4, none⟩ = some (.int .i64 x1) ∧ W.cell? ⟨xb, xo + i * 4 + 1, none⟩ = some (.int .i64 x2) ∧ W.cell? ⟨xb, xo + i * 4 + 2, none⟩ = some (.int .i64 x3) ∧ W.cell? ⟨xb, xo + i * 4 + 3, none⟩ = some (.int .i64 x4))) (by kernel_rfl) ⟨e1, e2, e3, e4, d0, d1, d2, d3⟩ (fun hHeld => ?_)
              refine wpAnyH_take (i := 0) (v := ?vt0_1) rfl (by kernel_rfl) (by kernel_rfl) (by kernel_rfl) (fun _ _ _ h => h) (Or.inl ⟨by rfl, ?hyt0_1⟩) (by assumption) ?restt0_1
              case hyt0_1 => (intro w hSw; obtain ⟨s1, s2, s3, s4, s5, s6, s7, s8⟩ := hSw; go_simp; try with_reducible rfl)
              try simp only [Act.put, List.setIfInBounds_toArray, List.set_cons_zero, List.set_cons_succ, List.getElem_toArray, List.getElem_cons_succ, List.getElem_cons_zero]
              refine wpAnyH_take (i := 1) (v := ?vt1_2) rfl (by kernel_rfl) (by kernel_rfl) (by kernel_rfl) (fun _ _ _ h => h) (Or.inl ⟨by rfl, ?hyt1_2⟩) (by assumption) ?restt1_2
              case hyt1_2 => (intro w hSw; obtain ⟨s1, s2, s3, s4, s5, s6, s7, s8⟩ := hSw; go_simp; try with_reducible rfl)
              try simp only [Act.put, List.setIfInBounds_toArray, List.set_cons_zero, List.set_cons_succ, List.getElem_toArray, List.getElem_cons_succ, List.getElem_cons_zero]
              refine wpAnyH_take (i := 2) (v := ?vt2_3) rfl (by kernel_rfl) (by kernel_rfl) (by kernel_rfl) (fun _ _ _ h => h) (Or.inl ⟨by rfl, ?hyt2_3⟩) (by assumption) ?restt2_3
              case hyt2_3 => (intro w hSw; obtain ⟨s1, s2, s3, s4, s5, s6, s7, s8⟩ := hSw; go_simp; try with_reducible rfl)
              try simp only [Act.put, List.setIfInBounds_toArray, List.set_cons_zero, List.set_cons_succ, List.getElem_toArray, List.getElem_cons_succ, List.getElem_cons_zero]
              refine wpAnyH_take (i := 3) (v := ?vt3_4) rfl (by kernel_rfl) (by kernel_rfl) (by kernel_rfl) (fun _ _ _ h => h) (Or.inl ⟨by rfl, ?hyt3_4⟩) (by assumption) ?restt3_4
              case hyt3_4 => (intro w hSw; obtain ⟨s1, s2, s3, s4, s5, s6, s7, s8⟩ := hSw; go_simp; try with_reducible rfl)
              try simp only [Act.put, List.setIfInBounds_toArray, List.set_cons_zero, List.set_cons_succ, List.getElem_toArray, List.getElem_cons_succ, List.getElem_cons_zero]
              refine wpAnyH_take (i := 4) (v := ?vt4_5) rfl (by kernel_rfl) (by kernel_rfl) (by kernel_rfl) (fun _ _ _ h => h) (Or.inl ⟨by rfl, ?hyt4_5⟩) (by assumption) ?restt4_5
              case hyt4_5 => (intro w hSw; obtain ⟨s1, s2, s3, s4, s5, s6, s7, s8⟩ := hSw; go_simp; try with_reducible rfl)
              try simp only [Act.put, List.setIfInBounds_toArray, List.set_cons_zero, List.set_cons_succ, List.getElem_toArray, List.getElem_cons_succ, List.getElem_cons_zero]
              refine wpAnyH_take (i := 5) (v := ?vt5_6) rfl (by kernel_rfl) (by kernel_rfl) (by kernel_rfl) (fun _ _ _ h => h) (Or.inl ⟨by rfl, ?hyt5_6⟩) (by assumption) ?restt5_6
              case hyt5_6 => (intro w hSw; obtain ⟨s1, s2, s3, s4, s5, s6, s7, s8⟩ := hSw; go_simp; try with_reducible rfl)
              try simp only [Act.put, List.setIfInBounds_toArray, List.set_cons_zero, List.set_cons_succ, List.getElem_toArray, List.getElem_cons_succ, List.getElem_cons_zero]
              refine wpAnyH_take (i := 6) (v := ?vt6_7) rfl (by kernel_rfl) (by kernel_rfl) (by kernel_rfl) (fun _ _ _ h => h) (Or.inl ⟨by rfl, ?hyt6_7⟩) (by assumption) ?restt6_7
              case hyt6_7 => (intro w hSw; obtain ⟨s1, s2, s3, s4, s5, s6, s7, s8⟩ := hSw; go_simp; try with_reducible rfl)
              try simp only [Act.put, List.setIfInBounds_toArray, List.set_cons_zero, List.set_cons_succ, List.getElem_toArray, List.getElem_cons_succ, List.getElem_cons_zero]
              refine wpAnyH_take (i := 7) (v := ?vt7_8) rfl (by kernel_rfl) (by kernel_rfl) (by kernel_rfl) (fun _ _ _ h => h) (Or.inl ⟨by rfl, ?hyt7_8⟩) (by assumption) ?restt7_8
              case hyt7_8 => (intro w hSw; obtain ⟨s1, s2, s3, s4, s5, s6, s7, s8⟩ := hSw; go_simp; try with_reducible rfl)
              try simp only [Act.put, List.setIfInBounds_toArray, List.set_cons_zero, List.set_cons_succ, List.getElem_toArray, List.getElem_cons_succ, List.getElem_cons_zero]
              refine wpAnyH_ready (rs := [8]) (by kernel_rfl) (by simp) ?_
              refine AllReadyH.cons rfl (fun K hK => ?_) AllReadyH.nil
              go_simp
              refine (ref_Minus a1 a2 a3 a4 x1 x2 x3 x4 _).mono ?_
              rintro e w6 ⟨v, rfl, hown, hb6⟩
              have hS6 : w6.cell? ⟨lb, lo + k * 4, none⟩ = some (.int .i64 a1) ∧ w6.cell? ⟨lb, lo + k * 4 + 1, none⟩ = some (.int .i64 a2) ∧ w6.cell? ⟨lb, lo + k * 4 + 2, none⟩ = some (.int .i64 a3) ∧ w6.cell? ⟨lb, lo + k * 4 + 3, none⟩ = some (.int .i64 a4) ∧ w6.cell? ⟨xb, xo + i * 4, none⟩ = some (.int .i64 x1) ∧ w6.cell? ⟨xb, xo + i * 4 + 1, none⟩ = some (.int .i64 x2) ∧ w6.cell? ⟨xb, xo + i * 4 + 2, none⟩ = some (.int .i64 x3) ∧ w6.cell? ⟨xb, xo + i * 4 + 3, none⟩ = some (.int .i64 x4) := by
                obtain ⟨s1, s2, s3, s4, s5, s6, s7, s8⟩ := hHeld
                exact ⟨cell_step hb6 s1, cell_step hb6 s2, cell_step hb6 s3, cell_step hb6 s4, cell_step hb6 s5, cell_step hb6 s6, cell_step hb6 s7, cell_step hb6 s8⟩
              have HR6 := Lib.hid (HR.out.drew.below hb6)
              have HOW := Lib.hid hown
              have HS6 := Lib.hid hS6
              clear hown hb6 hS6
              go_wp2_with fail
              refine hK.out _ _ HS6.out (fun hHeld => ?_)
              clear hK K
              try simp only [Act.put, List.setIfInBounds_toArray, List.set_cons_zero, List.set_cons_succ, List.getElem_toArray, List.getElem_cons_succ, List.getElem_cons_zero]
              refine wpAnyH_take (i := 9) (v := ?vt9_9) rfl (by kernel_rfl) (by kernel_rfl) (by kernel_rfl) (fun _ _ _ h => h) (Or.inl ⟨by rfl, ?hyt9_9⟩) (by assumption) ?restt9_9
              case hyt9_9 => (intro w hSw; obtain ⟨s1, s2, s3, s4, s5, s6, s7, s8⟩ := hSw; go_simp; try with_reducible rfl)
              try simp only [Act.put, List.setIfInBounds_toArray, List.set_cons_zero, List.set_cons_succ, List.getElem_toArray, List.getElem_cons_succ, List.getElem_cons_zero]
              refine wpAnyH_take (i := 10) (v := ?vt10_10) rfl (by kernel_rfl) (by kernel_rfl) (by kernel_rfl) (fun _ _ _ h => h) (Or.inl ⟨by rfl, ?hyt10_10⟩) (by assumption) ?restt10_10
              case hyt10_10 => (intro w hSw; obtain ⟨s1, s2, s3, s4, s5, s6, s7, s8⟩ := hSw; go_simp; try with_reducible rfl)
              try simp only [Act.put, List.setIfInBounds_toArray, List.set_cons_zero, List.set_cons_succ, List.getElem_toArray, List.getElem_cons_succ, List.getElem_cons_zero]
              refine wpAnyH_take (i := 11) (v := ?vt11_11) rfl (by kernel_rfl) (by kernel_rfl) (by kernel_rfl) (fun _ _ _ h => h) (Or.inl ⟨by rfl, ?hyt11_11⟩) (by assumption) ?restt11_11
              case hyt11_11 => (intro w hSw; obtain ⟨s1, s2, s3, s4, s5, s6, s7, s8⟩ := hSw; go_simp; try with_reducible rfl)
              try simp only [Act.put, List.setIfInBounds_toArray, List.set_cons_zero, List.set_cons_succ, List.getElem_toArray, List.getElem_cons_succ, List.getElem_cons_zero]
              refine wpAnyH_take (i := 12) (v := ?vt12_12) rfl (by kernel_rfl) (by kernel_rfl) (by kernel_rfl) (fun _ _ _ h => h) (Or.inl ⟨by rfl, ?hyt12_12⟩) (by assumption) ?restt12_12
              case hyt12_12 => (intro w hSw; obtain ⟨s1, s2, s3, s4, s5, s6, s7, s8⟩ := hSw; go_simp; try with_reducible rfl)
              try simp only [Act.put, List.setIfInBounds_toArray, List.set_cons_zero, List.set_cons_succ, List.getElem_toArray, List.getElem_cons_succ, List.getElem_cons_zero]
              refine wpAnyH_take (i := 13) (v := ?vt13_13) rfl (by kernel_rfl) (by kernel_rfl) (by kernel_rfl) (fun _ _ _ h => h) (Or.inl ⟨by rfl, ?hyt13_13⟩) (by assumption) ?restt13_13
              case hyt13_13 => (intro w hSw; obtain ⟨s1, s2, s3, s4, s5, s6, s7, s8⟩ := hSw; go_simp; try with_reducible rfl)
              try simp only [Act.put, List.setIfInBounds_toArray, List.set_cons_zero, List.set_cons_succ, List.getElem_toArray, List.getElem_cons_succ, List.getElem_cons_zero]
              refine wpAnyH_done (by kernel_rfl) ?_ _
              clear e1 e2 e3 e4 d0 d1 d2 d3 hHeld HS6 zx lz
              obtain ⟨v7, w7, hr7, ho7, hg7, hat7⟩ := append_parts HR6.out.own HOW.out (rcells_one _) (HR6.out.ok.bel.size) (by have h9 := HF1.out; omega)
              have HR7 := Lib.hid (HR6.out.grown ho7 hg7 hat7)
              clear ho7 hg7 hat7 HR HR6 HOW
              go_wp2_with (at_builtin; refine wpList_run rfl _ _ _ rfl _ _ rfl rfl hr7 ?_; clear hr7)
              exact ⟨⟨k + 1, _, by omega, by go_num, keep (by rw [HCS.out, List.length_append, ← HNN.out]), by rw [HCS.out, rcells_app]; exact HR7⟩, by simp [intOf]; omega⟩
            · have hke : k = nL := by omega
              have htk : L0.take k = L0 := List.take_of_length_le (by have := HN.out; omega)
              rw [htk] at HNN HR
              obtain ⟨a9, c9, hv9, hI9, _⟩ := own_rects (l := cutR L0 ⟨x1, x2, x3, x4⟩) (by have h9 := HR.out.own; rw [HNN.out] at h9; exact h9)
              have H9 := Lib.hid ((HR.out.ok.drop [kRects w.heap.size (some ⟨xb, xo, none⟩) n f] (by simp)).add (kRects wr.heap.size a9 (cutR L0 ⟨x1, x2, x3, x4⟩).length (fun q => (cutR L0 ⟨x1, x2, x3, x4⟩).getD q R4.zero)) ⟨hI9, Nat.le_refl _⟩)
              have HV9 := keep hv9
              clear hI9 htk HR HX
              rw [hv9]
              clear hv9
              go_wp2_with fail
              exact ⟨⟨i + 1, _, c9, _, a9, by omega, by go_num, rfl, keep (by rw [HS.out]), by rw [HS.out]; exact H9⟩, by simp [intOf]; omega⟩
        · have hie : i = n := by omega
          subst hie
          have hq : ((nL : Int) == 0) = coversP ⟨r1, r2, r3, r4⟩ (listR f i) := by
            rw [← covers_same _ _ HC1.out ((listR_all f i).1 HC2.out), HN.out]
            cases leftR ⟨r1, r2, r3, r4⟩ (listR f i) <;> simp <;> omega
          have HCV := keep (coversS_yes (f := f) (n := i) HC1.out HC2.out)
          go_wp2_with fail
          go_ret2
          rw [HCV.out]
          exact ⟨rfl, H.out.bel⟩
end Go.Proofs.YtkdabfepggehiaaDoor
